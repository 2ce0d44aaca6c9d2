/- Texts of this claim, merged and cut to what its theorem reaches, by a program of this session: words and contracts that the print (or a changed scratch copy of it) wrote, and own proofs. -/
import Derived.Test.YtbfhohpbldadbaaEbS1
import Derived.Below
import Derived.Deep.Draws
import Derived.Deep.AppendLies
import Derived.Maps.AppendAt
import Derived.OwnWalk
import Derived.Laws.BytesArg
import Derived.Laws.MakeOwn
import Derived.Laws.OwnMore
import Derived.Deep.OwnRows
import Derived.Tactics
import Derived.Lib.ConvBytes
import Derived.Laws.Slices
import Derived.WalkKit
import Derived.KernelRfl
import Derived.RowKit3
import Derived.Deep.LoopGhost
import Derived.Deep.QuietTactic
import Derived.BigQuiet
import Derived.WideLaws
import Derived.Deep.DeepCutAuto
import Derived.Deep.CutBlock
import Derived.Deep.RegionHeld3
import Derived.Laws.Rows
import Derived.Lib.AppendStr
import Derived.ArgAppend
import Derived.Laws.IdiomCopy
import Derived.RowKit
import Derived.Laws.StructEq
import Derived.Test.YtbfhohpbldadbaaProg
import Derived.OrdersHeld
import Derived.Laws.BitsLemmas
import Derived.Lib.Hide
import Derived.WalkSpells
import Derived.Lib.OthersKept
import Derived.Lib.TrimU
import Derived.Laws.RangeAny
import Derived.Maps.Keyed
import Derived.WideKeyRuns
import Derived.Lib.SliceRun
import Derived.Deep.RegionWith
import Derived.Test.YtbfhohpbldadbaaEb2
namespace Go.Proofs.Ytbfhohpbldadbaa.P
open Go Go.RowKit Go.Proofs.YtbfhohpbldadbaaW.PrintWords Go.Proofs.YtbfhohpbldadbaaW.PrintLast Go.Proofs.YtbfhohpbldadbaaW.PrintMore
set_option linter.unusedVariables false
set_option linter.unusedSimpArgs false
def e0 : S61 := ⟨[], 0, 0, [], false, -1⟩
theorem new_calls (w : World) : Calls Try.prog 69 #[] w fun e w' => e = .returned (.agg #[.slice none 0 0, .int .i64 0, .int .i64 0, .slice none 0 0, .bool false, .int .i64 (-1)]) ∧ Below w.heap.size w w' := by
  go_enter Try.func69, Try.ntmps69
  have Z := EBlk.new w 61 (.slice none 0 0) (.slice none 0 0) 0 0 0 false
  have B := Lib.hid (below_one w (.cells #[.slice none 0 0, .int .i64 0, .int .i64 0, .slice none 0 0, .bool false, .int .i64 0] 61))
  go_wp2_with fail
  have Z9 := EBlk.new w 61 (.slice none 0 0) (.slice none 0 0) 0 0 (-1) false
  exact bodyPost_ret (v := .agg #[.slice none 0 0, .int .i64 0, .int .i64 0, .slice none 0 0, .bool false, .int .i64 (-1)]) (by simp [results, Try.results69, go_sem, Z9.c0, Z9.c1, Z9.c2, Z9.c3, Z9.c4, Z9.c5]) rfl ⟨rfl, below_one _ _⟩
theorem EndV.out {w : World} {B : Nat} {v : Value} {x : S61} (h : EndV w B v x) {n m : Nat} (hn : x.f0.length = n) (hm : x.f3.length = m) : ∃ A0 c0 A3 c3, v = .agg #[.slice A0 n c0, .int .i64 x.f1, .int .i64 x.f2, .slice A3 m c3, .bool x.f4, .int .i64 x.f5] ∧ Kd.C kL w A0 n x.f0 ∧ Kd.C k39 w A3 m x.f3 := by
  subst hn; subst hm
  obtain ⟨vo, vi, rfl, hO, hI⟩ := h
  obtain ⟨A0, c0, rfl⟩ := Kd.V_slice hO
  obtain ⟨A3, c3, rfl⟩ := Kd.V_slice hI
  exact ⟨A0, c0, A3, c3, rfl, (Kd.V_reads' hO).2.2, (Kd.V_reads' hI).2.2⟩
def rec9 : S39 := ⟨9, 0, 0, ⟨#[]⟩, 0, 0, 0, 4⟩
set_option maxRecDepth 100000 in
theorem sn1 : offF e0 [rec9] = (⟨[[rec9]], 0, 0, [], false, -1⟩, 0) := by rfl
set_option maxRecDepth 100000 in
theorem sn2 : pollF ⟨[[rec9]], 0, 0, [], false, -1⟩ 5 = (⟨[[rec9]], 0, 0, [], false, 8⟩, [⟨0, false, [rec9]⟩], 0) := by rfl
set_option maxRecDepth 100000 in
theorem sn3 : pollF ⟨[[rec9]], 0, 0, [], false, 8⟩ 6 = (⟨[[rec9]], 0, 0, [], false, 8⟩, [], 0) := by rfl
set_option maxRecDepth 100000 in
theorem sn4 : recvF ⟨[], 0, 0, [], false, -1⟩ ⟨0, false, [rec9]⟩ 6 = (⟨[], 0, 1, [rec9], true, -1⟩, 0) := by rfl
set_option maxRecDepth 100000 in
theorem sn5 : recvF ⟨[], 0, 1, [rec9], true, -1⟩ ⟨0, false, [rec9]⟩ 6 = (⟨[], 0, 1, [rec9], true, -1⟩, 0) := by rfl
set_option maxRecDepth 100000 in
theorem sn6 : pollF ⟨[], 0, 1, [rec9], true, -1⟩ 6 = (⟨[], 0, 1, [rec9], false, -1⟩, [⟨1, true, []⟩], 0) := by rfl
set_option maxRecDepth 100000 in
theorem sn7 : recvF ⟨[[rec9]], 0, 0, [], false, 8⟩ ⟨1, true, []⟩ 7 = (⟨[], 1, 0, [], false, -1⟩, 0) := by rfl
set_option maxRecDepth 100000 in
theorem sn8 : recvF ⟨[[rec9]], 0, 0, [], false, 8⟩ ⟨2, true, []⟩ 7 = (z61, 300) := by rfl
set_option maxRecDepth 100000 in
theorem sn9 : recvF ⟨[], 0, 1, [rec9], true, -1⟩ ⟨2, false, [rec9]⟩ 7 = (z61, 300) := by rfl
/-- A batch's cells in a row. -/
theorem B_cell83 {w : World} {g c n : Nat} {xs : List S83} {B : Nat} {ok : Nat → Prop} (h : Kd.R k83 83 w B ok (.slice (some ⟨g, 0, none⟩) n c) xs) (hl : 0 < xs.length) :
    ∃ A2 c2, w.cell? ⟨g, 0, none⟩ = some (.int .i64 (xs[0]'hl).f0) ∧ w.cell? ⟨g, 1, none⟩ = some (.bool (xs[0]'hl).f1) ∧ w.cell? ⟨g, 2, none⟩ = some (.slice A2 (xs[0]'hl).f2.length c2) ∧ Kd.C k39 w A2 (xs[0]'hl).f2.length (xs[0]'hl).f2 := by
  obtain ⟨ad, A2, c2, hA, h0, h1, h2, _, h4⟩ := at_T83 (Kd.R_reads' h).2.2 0 (by omega) (by omega)
  injection hA with hA
  subst hA
  have e : rd_T83 xs 0 = xs[0]'hl := getD_at hl z83
  rw [e] at h0 h1 h2 h4
  exact ⟨A2, c2, by simpa [Addr.add] using h0, by simpa [Addr.add] using h1, by simpa [Addr.add] using h2, h4⟩
structure HE (W : World) (t : Nat) (A0 : Option Addr) (n0 c0 : Nat) (A3 : Option Addr) (n3 c3 : Nat) (x : S61) : Prop where
  blk : EBlk W t 61 (.slice A0 n0 c0) x.f1 x.f2 (.slice A3 n3 c3) x.f4 x.f5
  o : Kd.C kL W A0 n0 x.f0
  i : Kd.C k39 W A3 n3 x.f3
theorem HE.below {W W' : World} {t : Nat} {A0 : Option Addr} {n0 c0 : Nat} {A3 : Option Addr} {n3 c3 : Nat} {x : S61} (h : HE W t A0 n0 c0 A3 n3 c3 x) (hb : Below W.heap.size W W') : HE W' t A0 n0 c0 A3 n3 c3 x :=
  ⟨h.blk.below hb, Kd.C_below h.o hb, Kd.C_below h.i hb⟩
structure HB (W : World) (g : Nat) (b : S83) (A2 : Option Addr) (n2 c2 : Nat) : Prop where
  c0 : W.cell? ⟨g, 0, none⟩ = some (.int .i64 b.f0)
  c1 : W.cell? ⟨g, 1, none⟩ = some (.bool b.f1)
  c2 : W.cell? ⟨g, 2, none⟩ = some (.slice A2 n2 c2)
  r : Kd.C k39 W A2 n2 b.f2
theorem HB.below {W W' : World} {g : Nat} {b : S83} {A2 : Option Addr} {n2 c2 : Nat} (h : HB W g b A2 n2 c2) (hb : Below W.heap.size W W') : HB W' g b A2 n2 c2 :=
  ⟨cell_keep h.c0 hb, cell_keep h.c1 hb, cell_keep h.c2 hb, Kd.C_below h.r hb⟩
theorem recv_lit {c : S61} {b : S83} {now : Int} {x : S61} {r : Int} (h : recvF c b now = (x, r)) {A0 : Option Addr} {n0 c0 : Nat} {A3 : Option Addr} {n3 c3 : Nat} {A2 : Option Addr} {n2 c2 : Nat} (w : World) (hn0 : c.f0.length = n0) (hn3 : c.f3.length = n3) (hn2 : b.f2.length = n2)
    (hr : Kd.C kL w A0 n0 c.f0) (hr3 : Kd.C k39 w A3 n3 c.f3) (hl : n3 ≤ 1000000) (hr2 : Kd.C k39 w A2 n2 b.f2) :
    Calls Try.prog 46 #[.agg #[.slice A0 n0 c0, .int .i64 c.f1, .int .i64 c.f2, .slice A3 n3 c3, .bool c.f4, .int .i64 c.f5], .agg #[.int .i64 b.f0, .bool b.f1, .slice A2 n2 c2], .int .i64 now] w (Off2 x r w) := by
  subst hn0; subst hn3; subst hn2
  have hc := recv_calls A0 c0 A3 c3 c A2 c2 b now w hr hr3 hl hr2
  rw [h] at hc
  exact hc
set_option maxHeartbeats 16000000 in
set_option maxRecDepth 100000 in
theorem sane30_calls (w : World) : Calls Try.prog 33 #[] w fun e w' => e = .returned (.bool true) ∧ Below w.heap.size w w' := by
  go_enter Try.func33, Try.ntmps33
  go_wp2_with fail
  refine (new_calls w).mono ?_
  rintro e w1 ⟨rfl, hb⟩
  have B := Lib.hid hb
  clear hb
  go_wp2_with fail
  have hR := C1R w1 rec9
  refine (offer_calls none 0 none 0 e0 _ 1 [rec9] _ (Kd.C_nil _ _) (Kd.C_nil _ _) (Nat.zero_le _) hR).mono ?_
  rw [sn1]
  rintro e w2 ⟨v, rfl, hE, hb⟩
  obtain ⟨A1, c1, A2, c2, rfl, hO1, hI1⟩ := hE.out (n := 1) (m := 0) rfl rfl
  replace B := Lib.hid (bb B.out (bb (below_one _ _) hb))
  have O1 := Lib.hid hO1; have I1 := Lib.hid hI1
  clear hR hb hE hO1 hI1
  go_wp2_with fail
  obtain ⟨w2a, hwa⟩ : ∃ w2a, w2a = w2.alloc (.cells #[.slice A1 1 c1, .int .i64 (0), .int .i64 (0), .slice A2 0 c2, .bool false, .int .i64 (-1)] 61) := ⟨_, rfl⟩
  rw [← hwa]
  have hb : Below w2.heap.size w2 w2a := by rw [hwa]; exact below_one _ _
  obtain ⟨t1, ht1⟩ : ∃ t1, t1 = w2.heap.size := ⟨_, rfl⟩
  have H1 := Lib.hid (show HE w2a t1 A1 1 c1 A2 0 c2 ⟨[[rec9]], 0, 0, [], false, -1⟩ from ⟨by rw [hwa, ht1]; exact EBlk.new _ _ _ _ _ _ _ _, Kd.C_below O1.out hb, Kd.C_below I1.out hb⟩)
  rw [← ht1]
  replace B := Lib.hid (bb B.out hb)
  clear hb hwa ht1 O1 I1
  have h10 := H1.out.blk.c0; have h11 := H1.out.blk.c1; have h12 := H1.out.blk.c2; have h13 := H1.out.blk.c3; have h14 := H1.out.blk.c4; have h15 := H1.out.blk.c5
  refine (poll_calls A1 c1 A2 c2 ⟨[[rec9]], 0, 0, [], false, -1⟩ 5 _ H1.out.o H1.out.i (by decide)).mono ?_
  rw [sn2]
  rintro e w3 ⟨v, vl, rfl, hE, hL, hb⟩
  replace H1 := Lib.hid (H1.out.below hb)
  replace B := Lib.hid (bb B.out hb)
  obtain ⟨A3, c3, D3, d3, rfl, hO1, hI1⟩ := hE.out (n := 1) (m := 0) rfl rfl
  have O1 := Lib.hid hO1; have I1 := Lib.hid hI1
  obtain ⟨g3, k3, rfl, _, _, _⟩ := Kd.R_form hL (by decide)
  obtain ⟨AB3, cB3, hc0, hc1, hc2, hr2⟩ := B_cell83 hL (by decide)
  have S3 := Lib.hid (show HB w3 g3 ⟨0, false, [rec9]⟩ AB3 1 cB3 from ⟨hc0, hc1, hc2, hr2⟩)
  clear hc0 hc1 hc2 hr2
  clear hb hE hL hO1 hI1
  simp only [List.length_cons, List.length_nil, Nat.zero_add]
  clear h10 h11 h12 h13 h14 h15
  go_wp2_with fail
  obtain ⟨w3a, hwa⟩ : ∃ w3a, w3a = w3.alloc (.cells #[.slice A3 1 c3, .int .i64 (0), .int .i64 (0), .slice D3 0 d3, .bool false, .int .i64 (8)] 61) := ⟨_, rfl⟩
  rw [← hwa]
  have hb : Below w3.heap.size w3 w3a := by rw [hwa]; exact below_one _ _
  obtain ⟨t3, ht3⟩ : ∃ t3, t3 = w3.heap.size := ⟨_, rfl⟩
  have H3 := Lib.hid (show HE w3a t3 A3 1 c3 D3 0 d3 ⟨[[rec9]], 0, 0, [], false, 8⟩ from ⟨by rw [hwa, ht3]; exact EBlk.new _ _ _ _ _ _ _ _, Kd.C_below O1.out hb, Kd.C_below I1.out hb⟩)
  rw [← ht3]
  replace H1 := Lib.hid (H1.out.below hb)
  replace S3 := Lib.hid (S3.out.below hb)
  replace B := Lib.hid (bb B.out hb)
  clear hb hwa ht3 O1 I1
  refine (poll_calls A3 c3 D3 d3 ⟨[[rec9]], 0, 0, [], false, 8⟩ 6 _ H3.out.o H3.out.i (by decide)).mono ?_
  rw [sn3]
  rintro e w4 ⟨v, vl, rfl, hE, hL, hb⟩
  replace H1 := Lib.hid (H1.out.below hb)
  replace H3 := Lib.hid (H3.out.below hb)
  replace S3 := Lib.hid (S3.out.below hb)
  replace B := Lib.hid (bb B.out hb)
  obtain ⟨A4, c4, D4, d4, rfl, hO1, hI1⟩ := hE.out (n := 1) (m := 0) rfl rfl
  have O1 := Lib.hid hO1; have I1 := Lib.hid hI1
  obtain ⟨AN, cN, rfl⟩ := Kd.R_slice hL
  clear hb hE hL hO1 hI1
  simp only [List.length_nil]
  go_wp2_with fail
  obtain ⟨w4a, hwa⟩ : ∃ w4a, w4a = w4.alloc (.cells #[.slice A4 1 c4, .int .i64 (0), .int .i64 (0), .slice D4 0 d4, .bool false, .int .i64 (8)] 61) := ⟨_, rfl⟩
  rw [← hwa]
  have hb : Below w4.heap.size w4 w4a := by rw [hwa]; exact below_one _ _
  obtain ⟨t4, ht4⟩ : ∃ t4, t4 = w4.heap.size := ⟨_, rfl⟩
  have H4 := Lib.hid (show HE w4a t4 A4 1 c4 D4 0 d4 ⟨[[rec9]], 0, 0, [], false, 8⟩ from ⟨by rw [hwa, ht4]; exact EBlk.new _ _ _ _ _ _ _ _, Kd.C_below O1.out hb, Kd.C_below I1.out hb⟩)
  rw [← ht4]
  replace H1 := Lib.hid (H1.out.below hb)
  replace H3 := Lib.hid (H3.out.below hb)
  replace S3 := Lib.hid (S3.out.below hb)
  replace B := Lib.hid (bb B.out hb)
  clear hb hwa ht4 O1 I1
  replace H1 := Lib.hid (H1.out.below (below_drew (Below.refl _ _)))
  replace H3 := Lib.hid (H3.out.below (below_drew (Below.refl _ _)))
  replace H4 := Lib.hid (H4.out.below (below_drew (Below.refl _ _)))
  replace S3 := Lib.hid (S3.out.below (below_drew (Below.refl _ _)))
  replace B := Lib.hid (bb B.out (below_drew (Below.refl _ _)))
  refine start_ (n := 11) (S := fun w' => w'.cell? ⟨g3, 0, none⟩ = some (.int .i64 (0)) ∧ w'.cell? ⟨g3, 1, none⟩ = some (.bool false) ∧ w'.cell? ⟨g3, 2, none⟩ = some (.slice AB3 1 cB3)) (ds := [9]) #[false, false, false, false, false, false, false, false, false, false, false] (by kernel_rfl) rfl rfl ⟨(S3.out.below (Below.refl _ _)).c0, (S3.out.below (Below.refl _ _)).c1, (S3.out.below (Below.refl _ _)).c2⟩ (fun hHeld => ?_)
  generalize w4a.drew = wd9 at H1 H3 H4 S3 B hHeld ⊢
  refine pure_ (i := 1) (N := some 64) (v := ?_) (a' := ?_) #[false, true, false, false, false, false, false, false, false, false, false] rfl rfl (by kernel_rfl) (fun _ _ _ h => h) (Or.inl ⟨by rfl, ?_⟩) ?_ ?_
  rotate_left
  · intro w'
    go_simp
    with_reducible rfl
  rotate_left
  · simp only [Act.put, List.setIfInBounds_toArray, List.set_cons_zero, List.set_cons_succ, i64_w, i32_w]
    rfl
  refine pure_ (i := 2) (N := some 65) (v := ?_) (a' := ?_) #[false, true, true, false, false, false, false, false, false, false, false] rfl rfl (by kernel_rfl) (fun _ _ _ h => h) (Or.inl ⟨by rfl, ?_⟩) ?_ ?_
  rotate_left
  · intro w'
    go_simp
    with_reducible rfl
  rotate_left
  · simp only [Act.put, List.setIfInBounds_toArray, List.set_cons_zero, List.set_cons_succ, i64_w, i32_w]
    rfl
  refine take_ (i := 3) (N := some 66) (v := ?_) (a' := ?_) #[false, true, true, true, false, false, false, false, false, false, false] rfl rfl (by kernel_rfl) (fun _ _ _ h => h) (Or.inl ⟨by rfl, ?_⟩) hHeld ?_ ?_
  rotate_left
  · rintro w' ⟨s0, s1, s2⟩
    go_simp
    with_reducible rfl
  rotate_left
  · simp only [Act.put, List.setIfInBounds_toArray, List.set_cons_zero, List.set_cons_succ, i64_w, i32_w]
    rfl
  refine join_ (σ := Nat × Option Addr × Nat × Option Addr × Nat) 2 #[true, true, true, true, true, true, true, true, true, false, false] (fun s => [(63, .agg #[.slice none 0 0, .int .i64 0, .int .i64 0, .slice none 0 0, .bool false, .int .i64 (-1)]), (67, .tuple #[.agg #[.slice (s.2.1) 0 (s.2.2.1), .int .i64 (0), .int .i64 (1), .slice (s.2.2.2.1) 1 (s.2.2.2.2), .bool true, .int .i64 (-1)], .int .i64 0]), (9, .pointer (some ⟨s.1, 0, none⟩)), (62, .tuple #[.agg #[.slice (s.2.1) 0 (s.2.2.1), .int .i64 (0), .int .i64 (1), .slice (s.2.2.2.1) 1 (s.2.2.2.2), .bool true, .int .i64 (-1)], .int .i64 0]), (68, .agg #[.slice (s.2.1) 0 (s.2.2.1), .int .i64 (0), .int .i64 (1), .slice (s.2.2.2.1) 1 (s.2.2.2.2), .bool true, .int .i64 (-1)]), (69, .int .i64 0)]) (fun s w' => Below wd9.heap.size wd9 w' ∧ wd9.heap.size ≤ s.1 ∧ EBlk w' s.1 61 (.slice none 0 0) 0 0 (.slice none 0 0) false 0 ∧ Kd.V kL 28 w' 0 (fun k => k ≠ s.1) (.slice s.2.1 0 s.2.2.1) [] ∧ Kd.V k39 39 w' 0 (fun k => k ≠ s.1) (.slice s.2.2.2.1 1 s.2.2.2.2) [rec9]) ?_ ?_
  rotate_left
  · intro hCont
    refine two_ (i := 0) (j := 8) (Ni := some 63) (Nj := some 9) #[true, true, true, true, false, false, false, false, false, false, false] #[false, true, true, true, false, false, false, false, true, false, false] rfl rfl rfl rfl (by kernel_rfl) (by decide) (by decide) (fun K hK => ?_) (fun K hK => ?_)
    · skip
      refine goes_ Try.func69 (by kernel_rfl) rfl #[] (by rfl) rfl rfl (by simp only [List.map_toArray, List.map_cons, List.map_nil]) ?_
      with_reducible refine (new_calls wd9).mono ?_
      rintro e wx1 ⟨rfl, hb⟩
      refine ⟨_, rfl, ?_⟩
      have hB1 : Below wd9.heap.size wd9 wx1 := hb
      clear hb
      refine hK.out _ _ ⟨(S3.out.below hB1).c0, (S3.out.below hB1).c1, (S3.out.below hB1).c2⟩ (fun hHeld => ?_)
      clear hK K
      refine norm_ (a' := ?_) ?_ ?_
      rotate_left
      · show Act.put _ (some 63) _ = _
        simp only [Act.put, List.setIfInBounds_toArray, List.set_cons_zero, List.set_cons_succ, i64_w, i32_w]
        rfl
      refine two_ (i := 4) (j := 8) (Ni := some 67) (Nj := some 9) #[true, true, true, true, true, false, false, false, false, false, false] #[true, true, true, true, false, false, false, false, true, false, false] rfl rfl rfl rfl (by kernel_rfl) (by decide) (by decide) (fun K hK => ?_) (fun K hK => ?_)
      · skip
        refine goes_ Try.func46 (by kernel_rfl) rfl #[.agg #[.slice none 0 0, .int .i64 0, .int .i64 0, .slice none 0 0, .bool false, .int .i64 (-1)], .agg #[.int .i64 (0), .bool false, .slice AB3 1 cB3], .int .i64 6] (by rfl) rfl rfl (by simp only [List.map_toArray, List.map_cons, List.map_nil]; rfl) ?_
        with_reducible refine ((show Calls Try.prog 46 #[.agg #[.slice none 0 0, .int .i64 0, .int .i64 0, .slice none 0 0, .bool false, .int .i64 (-1)], .agg #[.int .i64 (0), .bool false, .slice AB3 1 cB3], .int .i64 6] wx1 (Off2 ⟨[], 0, 1, [rec9], true, -1⟩ 0 _) from recv_lit (c := ⟨[], 0, 0, [], false, -1⟩) (b := ⟨0, false, [rec9]⟩) sn4 wx1 rfl rfl rfl (Kd.C_nil _ _) (Kd.C_nil _ _) (Nat.zero_le _) (S3.out.below hB1).r)).mono ?_
        rintro e wx2 ⟨v, rfl, ⟨vo, vi, rfl, hO, hI⟩, hb⟩
        refine ⟨_, rfl, ?_⟩
        obtain ⟨A9, c9, rfl⟩ := Kd.V_slice hO
        obtain ⟨D9, d9, rfl⟩ := Kd.V_slice hI
        replace hO : Kd.V kL 28 wx2 0 (fun k => wx1.heap.size ≤ k) (.slice A9 0 c9) [] := hO
        replace hI : Kd.V k39 39 wx2 0 (fun k => wx1.heap.size ≤ k) (.slice D9 1 d9) [rec9] := hI
        have hB2 : Below wd9.heap.size wd9 wx2 := bb hB1 hb
        clear hb
        refine hK.out _ _ ⟨(S3.out.below hB2).c0, (S3.out.below hB2).c1, (S3.out.below hB2).c2⟩ (fun hHeld => ?_)
        clear hK K
        refine norm_ (a' := ?_) ?_ ?_
        rotate_left
        · show Act.put _ (some 67) _ = _
          simp only [Act.put, List.setIfInBounds_toArray, List.set_cons_zero, List.set_cons_succ, i64_w, i32_w]
          rfl
        refine pure_ (i := 5) (N := some 62) (v := ?_) (a' := ?_) #[true, true, true, true, true, true, false, false, false, false, false] rfl rfl (by kernel_rfl) (fun _ _ _ h => h) (Or.inl ⟨by rfl, ?_⟩) ?_ ?_
        rotate_left
        · intro w'
          go_simp
          with_reducible rfl
        rotate_left
        · simp only [Act.put, List.setIfInBounds_toArray, List.set_cons_zero, List.set_cons_succ, i64_w, i32_w]
          rfl
        refine pure_ (i := 6) (N := some 68) (v := ?_) (a' := ?_) #[true, true, true, true, true, true, true, false, false, false, false] rfl rfl (by kernel_rfl) (fun _ _ _ h => h) (Or.inl ⟨by rfl, ?_⟩) ?_ ?_
        rotate_left
        · intro w'
          go_simp
          with_reducible rfl
        rotate_left
        · simp only [Act.put, List.setIfInBounds_toArray, List.set_cons_zero, List.set_cons_succ, i64_w, i32_w]
          rfl
        refine pure_ (i := 7) (N := some 69) (v := ?_) (a' := ?_) #[true, true, true, true, true, true, true, true, false, false, false] rfl rfl (by kernel_rfl) (fun _ _ _ h => h) (Or.inl ⟨by rfl, ?_⟩) ?_ ?_
        rotate_left
        · intro w'
          go_simp
          with_reducible rfl
        rotate_left
        · simp only [Act.put, List.setIfInBounds_toArray, List.set_cons_zero, List.set_cons_succ, i64_w, i32_w]
          rfl
        refine one_ (i := 8) (N := some 9) #[true, true, true, true, true, true, true, true, true, false, false] rfl rfl (by kernel_rfl) (by decide) (fun K hK => ?_)
        refine value_ (w1 := ?_) (v := ?_) (by rfl) rfl ?_ ?_
        rotate_left 2
        · go_simp
          constructor
          all_goals rfl
        have hB3 : Below wd9.heap.size wd9 (wx2.alloc (.cells #[.slice none 0 0, .int .i64 0, .int .i64 0, .slice none 0 0, .bool false, .int .i64 0] 61)) := al hB2 _
        have hZ := EBlk.new wx2 61 (.slice none 0 0) (.slice none 0 0) 0 0 0 false
        have htle : wd9.heap.size ≤ wx2.heap.size := hB2.size
        replace hO := Kd.V_mono (Kd.V_alloc (Kd.V_bound hO) (.cells #[.slice none 0 0, .int .i64 0, .int .i64 0, .slice none 0 0, .bool false, .int .i64 0] 61)) (fun k hk => show k ≠ wx2.heap.size by have := hk.2; omega)
        replace hI := Kd.V_mono (Kd.V_alloc (Kd.V_bound hI) (.cells #[.slice none 0 0, .int .i64 0, .int .i64 0, .slice none 0 0, .bool false, .int .i64 0] 61)) (fun k hk => show k ≠ wx2.heap.size by have := hk.2; omega)
        generalize wx2.alloc (.cells #[.slice none 0 0, .int .i64 0, .int .i64 0, .slice none 0 0, .bool false, .int .i64 0] 61) = wx3 at hB3 hZ hO hI ⊢
        refine hK.out _ _ ⟨(S3.out.below hB3).c0, (S3.out.below hB3).c1, (S3.out.below hB3).c2⟩ (fun hHeld => ?_)
        clear hK K
        refine norm_ (a' := ?_) ?_ ?_
        rotate_left
        · show Act.put _ (some 9) _ = _
          simp only [Act.put, List.setIfInBounds_toArray, List.set_cons_zero, List.set_cons_succ, i64_w, i32_w]
          rfl
        exact norm_ (by simp only [putAll, Act.put, List.setIfInBounds_toArray, List.set_cons_zero, List.set_cons_succ] <;> rfl) (hCont (wx2.heap.size, A9, c9, D9, d9) _ ⟨hB3, htle, hZ, hO, hI⟩)
      · skip
        refine value_ (w1 := ?_) (v := ?_) (by rfl) rfl ?_ ?_
        rotate_left 2
        · go_simp
          constructor
          all_goals rfl
        have hB2 : Below wd9.heap.size wd9 (wx1.alloc (.cells #[.slice none 0 0, .int .i64 0, .int .i64 0, .slice none 0 0, .bool false, .int .i64 0] 61)) := al hB1 _
        have hZ := EBlk.new wx1 61 (.slice none 0 0) (.slice none 0 0) 0 0 0 false
        have htle : wd9.heap.size ≤ wx1.heap.size := hB1.size
        generalize wx1.alloc (.cells #[.slice none 0 0, .int .i64 0, .int .i64 0, .slice none 0 0, .bool false, .int .i64 0] 61) = wx2 at hB2 hZ ⊢
        refine hK.out _ _ ⟨(S3.out.below hB2).c0, (S3.out.below hB2).c1, (S3.out.below hB2).c2⟩ (fun hHeld => ?_)
        clear hK K
        refine norm_ (a' := ?_) ?_ ?_
        rotate_left
        · show Act.put _ (some 9) _ = _
          simp only [Act.put, List.setIfInBounds_toArray, List.set_cons_zero, List.set_cons_succ, i64_w, i32_w]
          rfl
        refine one_ (i := 4) (N := some 67) #[true, true, true, true, true, false, false, false, true, false, false] rfl rfl (by kernel_rfl) (by decide) (fun K hK => ?_)
        refine goes_ Try.func46 (by kernel_rfl) rfl #[.agg #[.slice none 0 0, .int .i64 0, .int .i64 0, .slice none 0 0, .bool false, .int .i64 (-1)], .agg #[.int .i64 (0), .bool false, .slice AB3 1 cB3], .int .i64 6] (by rfl) rfl rfl (by simp only [List.map_toArray, List.map_cons, List.map_nil]; rfl) ?_
        with_reducible refine ((show Calls Try.prog 46 #[.agg #[.slice none 0 0, .int .i64 0, .int .i64 0, .slice none 0 0, .bool false, .int .i64 (-1)], .agg #[.int .i64 (0), .bool false, .slice AB3 1 cB3], .int .i64 6] wx2 (Off2 ⟨[], 0, 1, [rec9], true, -1⟩ 0 _) from recv_lit (c := ⟨[], 0, 0, [], false, -1⟩) (b := ⟨0, false, [rec9]⟩) sn4 wx2 rfl rfl rfl (Kd.C_nil _ _) (Kd.C_nil _ _) (Nat.zero_le _) (S3.out.below hB2).r)).mono ?_
        rintro e wx3 ⟨v, rfl, ⟨vo, vi, rfl, hO, hI⟩, hb⟩
        refine ⟨_, rfl, ?_⟩
        obtain ⟨A9, c9, rfl⟩ := Kd.V_slice hO
        obtain ⟨D9, d9, rfl⟩ := Kd.V_slice hI
        replace hO : Kd.V kL 28 wx3 0 (fun k => wx2.heap.size ≤ k) (.slice A9 0 c9) [] := hO
        replace hI : Kd.V k39 39 wx3 0 (fun k => wx2.heap.size ≤ k) (.slice D9 1 d9) [rec9] := hI
        replace hO := Kd.V_mono hO (ok' := fun k => k ≠ wx1.heap.size) (fun k hk => show k ≠ wx1.heap.size by have := heap_lt hZ; omega)
        replace hI := Kd.V_mono hI (ok' := fun k => k ≠ wx1.heap.size) (fun k hk => show k ≠ wx1.heap.size by have := heap_lt hZ; omega)
        replace hZ := hZ.below hb
        have hB3 : Below wd9.heap.size wd9 wx3 := bb hB2 hb
        clear hb
        refine hK.out _ _ ⟨(S3.out.below hB3).c0, (S3.out.below hB3).c1, (S3.out.below hB3).c2⟩ (fun hHeld => ?_)
        clear hK K
        refine norm_ (a' := ?_) ?_ ?_
        rotate_left
        · show Act.put _ (some 67) _ = _
          simp only [Act.put, List.setIfInBounds_toArray, List.set_cons_zero, List.set_cons_succ, i64_w, i32_w]
          rfl
        refine pure_ (i := 5) (N := some 62) (v := ?_) (a' := ?_) #[true, true, true, true, true, true, false, false, true, false, false] rfl rfl (by kernel_rfl) (fun _ _ _ h => h) (Or.inl ⟨by rfl, ?_⟩) ?_ ?_
        rotate_left
        · intro w'
          go_simp
          with_reducible rfl
        rotate_left
        · simp only [Act.put, List.setIfInBounds_toArray, List.set_cons_zero, List.set_cons_succ, i64_w, i32_w]
          rfl
        refine pure_ (i := 6) (N := some 68) (v := ?_) (a' := ?_) #[true, true, true, true, true, true, true, false, true, false, false] rfl rfl (by kernel_rfl) (fun _ _ _ h => h) (Or.inl ⟨by rfl, ?_⟩) ?_ ?_
        rotate_left
        · intro w'
          go_simp
          with_reducible rfl
        rotate_left
        · simp only [Act.put, List.setIfInBounds_toArray, List.set_cons_zero, List.set_cons_succ, i64_w, i32_w]
          rfl
        refine pure_ (i := 7) (N := some 69) (v := ?_) (a' := ?_) #[true, true, true, true, true, true, true, true, true, false, false] rfl rfl (by kernel_rfl) (fun _ _ _ h => h) (Or.inl ⟨by rfl, ?_⟩) ?_ ?_
        rotate_left
        · intro w'
          go_simp
          with_reducible rfl
        rotate_left
        · simp only [Act.put, List.setIfInBounds_toArray, List.set_cons_zero, List.set_cons_succ, i64_w, i32_w]
          rfl
        exact norm_ (by simp only [putAll, Act.put, List.setIfInBounds_toArray, List.set_cons_zero, List.set_cons_succ] <;> rfl) (hCont (wx1.heap.size, A9, c9, D9, d9) _ ⟨hB3, htle, hZ, hO, hI⟩)
    · skip
      refine value_ (w1 := ?_) (v := ?_) (by rfl) rfl ?_ ?_
      rotate_left 2
      · go_simp
        constructor
        all_goals rfl
      have hB1 : Below wd9.heap.size wd9 (wd9.alloc (.cells #[.slice none 0 0, .int .i64 0, .int .i64 0, .slice none 0 0, .bool false, .int .i64 0] 61)) := below_one _ _
      have hZ := EBlk.new wd9 61 (.slice none 0 0) (.slice none 0 0) 0 0 0 false
      have htle : wd9.heap.size ≤ wd9.heap.size := Nat.le_refl _
      generalize wd9.alloc (.cells #[.slice none 0 0, .int .i64 0, .int .i64 0, .slice none 0 0, .bool false, .int .i64 0] 61) = wx1 at hB1 hZ ⊢
      refine hK.out _ _ ⟨(S3.out.below hB1).c0, (S3.out.below hB1).c1, (S3.out.below hB1).c2⟩ (fun hHeld => ?_)
      clear hK K
      refine norm_ (a' := ?_) ?_ ?_
      rotate_left
      · show Act.put _ (some 9) _ = _
        simp only [Act.put, List.setIfInBounds_toArray, List.set_cons_zero, List.set_cons_succ, i64_w, i32_w]
        rfl
      refine one_ (i := 0) (N := some 63) #[true, true, true, true, false, false, false, false, true, false, false] rfl rfl (by kernel_rfl) (by decide) (fun K hK => ?_)
      refine goes_ Try.func69 (by kernel_rfl) rfl #[] (by rfl) rfl rfl (by simp only [List.map_toArray, List.map_cons, List.map_nil]) ?_
      with_reducible refine (new_calls wx1).mono ?_
      rintro e wx2 ⟨rfl, hb⟩
      refine ⟨_, rfl, ?_⟩
      have hB2 : Below wd9.heap.size wd9 wx2 := bb hB1 hb
      replace hZ := hZ.below hb
      clear hb
      refine hK.out _ _ ⟨(S3.out.below hB2).c0, (S3.out.below hB2).c1, (S3.out.below hB2).c2⟩ (fun hHeld => ?_)
      clear hK K
      refine norm_ (a' := ?_) ?_ ?_
      rotate_left
      · show Act.put _ (some 63) _ = _
        simp only [Act.put, List.setIfInBounds_toArray, List.set_cons_zero, List.set_cons_succ, i64_w, i32_w]
        rfl
      refine one_ (i := 4) (N := some 67) #[true, true, true, true, true, false, false, false, true, false, false] rfl rfl (by kernel_rfl) (by decide) (fun K hK => ?_)
      refine goes_ Try.func46 (by kernel_rfl) rfl #[.agg #[.slice none 0 0, .int .i64 0, .int .i64 0, .slice none 0 0, .bool false, .int .i64 (-1)], .agg #[.int .i64 (0), .bool false, .slice AB3 1 cB3], .int .i64 6] (by rfl) rfl rfl (by simp only [List.map_toArray, List.map_cons, List.map_nil]; rfl) ?_
      with_reducible refine ((show Calls Try.prog 46 #[.agg #[.slice none 0 0, .int .i64 0, .int .i64 0, .slice none 0 0, .bool false, .int .i64 (-1)], .agg #[.int .i64 (0), .bool false, .slice AB3 1 cB3], .int .i64 6] wx2 (Off2 ⟨[], 0, 1, [rec9], true, -1⟩ 0 _) from recv_lit (c := ⟨[], 0, 0, [], false, -1⟩) (b := ⟨0, false, [rec9]⟩) sn4 wx2 rfl rfl rfl (Kd.C_nil _ _) (Kd.C_nil _ _) (Nat.zero_le _) (S3.out.below hB2).r)).mono ?_
      rintro e wx3 ⟨v, rfl, ⟨vo, vi, rfl, hO, hI⟩, hb⟩
      refine ⟨_, rfl, ?_⟩
      obtain ⟨A9, c9, rfl⟩ := Kd.V_slice hO
      obtain ⟨D9, d9, rfl⟩ := Kd.V_slice hI
      replace hO : Kd.V kL 28 wx3 0 (fun k => wx2.heap.size ≤ k) (.slice A9 0 c9) [] := hO
      replace hI : Kd.V k39 39 wx3 0 (fun k => wx2.heap.size ≤ k) (.slice D9 1 d9) [rec9] := hI
      replace hO := Kd.V_mono hO (ok' := fun k => k ≠ wd9.heap.size) (fun k hk => show k ≠ wd9.heap.size by have := heap_lt hZ; omega)
      replace hI := Kd.V_mono hI (ok' := fun k => k ≠ wd9.heap.size) (fun k hk => show k ≠ wd9.heap.size by have := heap_lt hZ; omega)
      replace hZ := hZ.below hb
      have hB3 : Below wd9.heap.size wd9 wx3 := bb hB2 hb
      clear hb
      refine hK.out _ _ ⟨(S3.out.below hB3).c0, (S3.out.below hB3).c1, (S3.out.below hB3).c2⟩ (fun hHeld => ?_)
      clear hK K
      refine norm_ (a' := ?_) ?_ ?_
      rotate_left
      · show Act.put _ (some 67) _ = _
        simp only [Act.put, List.setIfInBounds_toArray, List.set_cons_zero, List.set_cons_succ, i64_w, i32_w]
        rfl
      refine pure_ (i := 5) (N := some 62) (v := ?_) (a' := ?_) #[true, true, true, true, true, true, false, false, true, false, false] rfl rfl (by kernel_rfl) (fun _ _ _ h => h) (Or.inl ⟨by rfl, ?_⟩) ?_ ?_
      rotate_left
      · intro w'
        go_simp
        with_reducible rfl
      rotate_left
      · simp only [Act.put, List.setIfInBounds_toArray, List.set_cons_zero, List.set_cons_succ, i64_w, i32_w]
        rfl
      refine pure_ (i := 6) (N := some 68) (v := ?_) (a' := ?_) #[true, true, true, true, true, true, true, false, true, false, false] rfl rfl (by kernel_rfl) (fun _ _ _ h => h) (Or.inl ⟨by rfl, ?_⟩) ?_ ?_
      rotate_left
      · intro w'
        go_simp
        with_reducible rfl
      rotate_left
      · simp only [Act.put, List.setIfInBounds_toArray, List.set_cons_zero, List.set_cons_succ, i64_w, i32_w]
        rfl
      refine pure_ (i := 7) (N := some 69) (v := ?_) (a' := ?_) #[true, true, true, true, true, true, true, true, true, false, false] rfl rfl (by kernel_rfl) (fun _ _ _ h => h) (Or.inl ⟨by rfl, ?_⟩) ?_ ?_
      rotate_left
      · intro w'
        go_simp
        with_reducible rfl
      rotate_left
      · simp only [Act.put, List.setIfInBounds_toArray, List.set_cons_zero, List.set_cons_succ, i64_w, i32_w]
        rfl
      exact norm_ (by simp only [putAll, Act.put, List.setIfInBounds_toArray, List.set_cons_zero, List.set_cons_succ] <;> rfl) (hCont (wd9.heap.size, A9, c9, D9, d9) _ ⟨hB3, htle, hZ, hO, hI⟩)
  rintro ⟨t9, A9, c9, D9, d9⟩ w9 ⟨hB, htle, hZ, hO, hI⟩
  have hHeld : w9.cell? ⟨g3, 0, none⟩ = some (.int .i64 (0)) ∧ w9.cell? ⟨g3, 1, none⟩ = some (.bool false) ∧ w9.cell? ⟨g3, 2, none⟩ = some (.slice AB3 1 cB3) := ⟨(S3.out.below hB).c0, (S3.out.below hB).c1, (S3.out.below hB).c2⟩
  refine norm_ (a' := ?_) ?_ ?_
  rotate_left
  · simp only [putAll, Act.put, List.setIfInBounds_toArray, List.set_cons_zero, List.set_cons_succ]
    rfl
  refine last_ (i := 9) (N := none) #[true, true, true, true, true, true, true, true, true, true, false] rfl rfl (by kernel_rfl) (by decide) (fun K hK => ?_)
  have z0 := hZ.c0; have z1 := hZ.c1; have z2 := hZ.c2; have z3 := hZ.c3; have z4 := hZ.c4; have z5 := hZ.c5; have y := blk_frozen hZ
  refine skip_ (w1 := ?_) (by rfl) rfl ?_ ?_
  rotate_left
  · go_simp
    rfl
  obtain ⟨w99, hw9, Z9, F9⟩ := six hZ (.slice A9 0 c9) (0) (1) (.slice D9 1 d9) true (-1)
  rw [← hw9]
  clear hw9 z0 z1 z2 z3 z4 z5 y
  refine hK.out _ _ ?_
  clear hK K
  refine pure_ (i := 10) (N := some 10) (v := ?_) (a' := ?_) #[true, true, true, true, true, true, true, true, true, true, true] rfl rfl (by kernel_rfl) (fun _ _ _ h => h) (Or.inl ⟨by rfl, ?_⟩) ?_ ?_
  rotate_left
  · intro w'
    go_simp
    with_reducible rfl
  rotate_left
  · simp only [Act.put, List.setIfInBounds_toArray, List.set_cons_zero, List.set_cons_succ, i64_w, i32_w]
    rfl
  refine done_ (by kernel_rfl) ?_

  have hB9 : Below wd9.heap.size wd9 w99 := Fr.below F9 hB (Nat.le_refl _) (fun k hk => by omega)
  have H9 := Lib.hid (show HE w99 t9 A9 0 c9 D9 1 d9 ⟨[], 0, 1, [rec9], true, -1⟩ from ⟨Z9, (Kd.V_reads' (Kd.V_step hO (fun k hk hlt => F9.same k hlt hk))).2.2, (Kd.V_reads' (Kd.V_step hI (fun k hk hlt => F9.same k hlt hk))).2.2⟩)
  replace H1 := Lib.hid (H1.out.below hB9)
  replace H3 := Lib.hid (H3.out.below hB9)
  replace H4 := Lib.hid (H4.out.below hB9)
  replace S3 := Lib.hid (S3.out.below hB9)
  replace B := Lib.hid (bb B.out hB9)
  clear hB9 hB htle hZ hO hI Z9 F9 hHeld
  go_wp2_with fail
  replace H1 := Lib.hid (H1.out.below (below_drew (Below.refl _ _)))
  replace H3 := Lib.hid (H3.out.below (below_drew (Below.refl _ _)))
  replace H4 := Lib.hid (H4.out.below (below_drew (Below.refl _ _)))
  replace H9 := Lib.hid (H9.out.below (below_drew (Below.refl _ _)))
  replace S3 := Lib.hid (S3.out.below (below_drew (Below.refl _ _)))
  replace B := Lib.hid (bb B.out (below_drew (Below.refl _ _)))
  refine start_ (n := 11) (S := fun w' => w'.cell? ⟨t9, 0, none⟩ = some (.slice A9 0 c9) ∧ w'.cell? ⟨t9, 1, none⟩ = some (.int .i64 (0)) ∧ w'.cell? ⟨t9, 2, none⟩ = some (.int .i64 (1)) ∧ w'.cell? ⟨t9, 3, none⟩ = some (.slice D9 1 d9) ∧ w'.cell? ⟨t9, 4, none⟩ = some (.bool true) ∧ w'.cell? ⟨t9, 5, none⟩ = some (.int .i64 (-1)) ∧ w'.cell? ⟨g3, 0, none⟩ = some (.int .i64 (0)) ∧ w'.cell? ⟨g3, 1, none⟩ = some (.bool false) ∧ w'.cell? ⟨g3, 2, none⟩ = some (.slice AB3 1 cB3)) (ds := [9]) #[false, false, false, false, false, false, false, false, false, false, false] (by kernel_rfl) rfl rfl ⟨(H9.out.below (Below.refl _ _)).blk.c0, (H9.out.below (Below.refl _ _)).blk.c1, (H9.out.below (Below.refl _ _)).blk.c2, (H9.out.below (Below.refl _ _)).blk.c3, (H9.out.below (Below.refl _ _)).blk.c4, (H9.out.below (Below.refl _ _)).blk.c5, (S3.out.below (Below.refl _ _)).c0, (S3.out.below (Below.refl _ _)).c1, (S3.out.below (Below.refl _ _)).c2⟩ (fun hHeld => ?_)
  generalize w99.drew = wd11 at H1 H3 H4 H9 S3 B hHeld ⊢
  refine pure_ (i := 1) (N := some 72) (v := ?_) (a' := ?_) #[false, true, false, false, false, false, false, false, false, false, false] rfl rfl (by kernel_rfl) (fun _ _ _ h => h) (Or.inl ⟨by rfl, ?_⟩) ?_ ?_
  rotate_left
  · intro w'
    go_simp
    with_reducible rfl
  rotate_left
  · simp only [Act.put, List.setIfInBounds_toArray, List.set_cons_zero, List.set_cons_succ, i64_w, i32_w]
    rfl
  refine pure_ (i := 2) (N := some 73) (v := ?_) (a' := ?_) #[false, true, true, false, false, false, false, false, false, false, false] rfl rfl (by kernel_rfl) (fun _ _ _ h => h) (Or.inl ⟨by rfl, ?_⟩) ?_ ?_
  rotate_left
  · intro w'
    go_simp
    with_reducible rfl
  rotate_left
  · simp only [Act.put, List.setIfInBounds_toArray, List.set_cons_zero, List.set_cons_succ, i64_w, i32_w]
    rfl
  refine take_ (i := 0) (N := some 71) (v := ?_) (a' := ?_) #[true, true, true, false, false, false, false, false, false, false, false] rfl rfl (by kernel_rfl) (fun _ _ _ h => h) (Or.inl ⟨by rfl, ?_⟩) hHeld ?_ ?_
  rotate_left
  · rintro w' ⟨s0, s1, s2, s3, s4, s5, s6, s7, s8⟩
    go_simp
    with_reducible rfl
  rotate_left
  · simp only [Act.put, List.setIfInBounds_toArray, List.set_cons_zero, List.set_cons_succ, i64_w, i32_w]
    rfl
  refine take_ (i := 3) (N := some 74) (v := ?_) (a' := ?_) #[true, true, true, true, false, false, false, false, false, false, false] rfl rfl (by kernel_rfl) (fun _ _ _ h => h) (Or.inl ⟨by rfl, ?_⟩) hHeld ?_ ?_
  rotate_left
  · rintro w' ⟨s0, s1, s2, s3, s4, s5, s6, s7, s8⟩
    go_simp
    with_reducible rfl
  rotate_left
  · simp only [Act.put, List.setIfInBounds_toArray, List.set_cons_zero, List.set_cons_succ, i64_w, i32_w]
    rfl
  refine join_ (σ := Nat × Option Addr × Nat × Option Addr × Nat) 2 #[true, true, true, true, true, true, true, true, true, false, false] (fun s => [(75, .tuple #[.agg #[.slice (s.2.1) 0 (s.2.2.1), .int .i64 (0), .int .i64 (1), .slice (s.2.2.2.1) 1 (s.2.2.2.2), .bool true, .int .i64 (-1)], .int .i64 0]), (11, .pointer (some ⟨s.1, 0, none⟩)), (70, .tuple #[.agg #[.slice (s.2.1) 0 (s.2.2.1), .int .i64 (0), .int .i64 (1), .slice (s.2.2.2.1) 1 (s.2.2.2.2), .bool true, .int .i64 (-1)], .int .i64 0]), (76, .agg #[.slice (s.2.1) 0 (s.2.2.1), .int .i64 (0), .int .i64 (1), .slice (s.2.2.2.1) 1 (s.2.2.2.2), .bool true, .int .i64 (-1)]), (77, .int .i64 0)]) (fun s w' => Below wd11.heap.size wd11 w' ∧ wd11.heap.size ≤ s.1 ∧ EBlk w' s.1 61 (.slice none 0 0) 0 0 (.slice none 0 0) false 0 ∧ Kd.V kL 28 w' 0 (fun k => k ≠ s.1) (.slice s.2.1 0 s.2.2.1) [] ∧ Kd.V k39 39 w' 0 (fun k => k ≠ s.1) (.slice s.2.2.2.1 1 s.2.2.2.2) [rec9]) ?_ ?_
  rotate_left
  · intro hCont
    refine two_ (i := 4) (j := 8) (Ni := some 75) (Nj := some 11) #[true, true, true, true, true, false, false, false, false, false, false] #[true, true, true, true, false, false, false, false, true, false, false] rfl rfl rfl rfl (by kernel_rfl) (by decide) (by decide) (fun K hK => ?_) (fun K hK => ?_)
    · skip
      refine goes_ Try.func46 (by kernel_rfl) rfl #[.agg #[.slice A9 0 c9, .int .i64 (0), .int .i64 (1), .slice D9 1 d9, .bool true, .int .i64 (-1)], .agg #[.int .i64 (0), .bool false, .slice AB3 1 cB3], .int .i64 6] (by rfl) rfl rfl (by simp only [List.map_toArray, List.map_cons, List.map_nil]; rfl) ?_
      with_reducible refine ((show Calls Try.prog 46 #[.agg #[.slice A9 0 c9, .int .i64 (0), .int .i64 (1), .slice D9 1 d9, .bool true, .int .i64 (-1)], .agg #[.int .i64 (0), .bool false, .slice AB3 1 cB3], .int .i64 6] wd11 (Off2 ⟨[], 0, 1, [rec9], true, -1⟩ 0 _) from recv_lit (c := ⟨[], 0, 1, [rec9], true, -1⟩) (b := ⟨0, false, [rec9]⟩) sn5 wd11 rfl rfl rfl (H9.out.below (Below.refl _ _)).o (H9.out.below (Below.refl _ _)).i (by decide) (S3.out.below (Below.refl _ _)).r)).mono ?_
      rintro e wx1 ⟨v, rfl, ⟨vo, vi, rfl, hO, hI⟩, hb⟩
      refine ⟨_, rfl, ?_⟩
      obtain ⟨A11, c11, rfl⟩ := Kd.V_slice hO
      obtain ⟨D11, d11, rfl⟩ := Kd.V_slice hI
      replace hO : Kd.V kL 28 wx1 0 (fun k => wd11.heap.size ≤ k) (.slice A11 0 c11) [] := hO
      replace hI : Kd.V k39 39 wx1 0 (fun k => wd11.heap.size ≤ k) (.slice D11 1 d11) [rec9] := hI
      have hB1 : Below wd11.heap.size wd11 wx1 := hb
      clear hb
      refine hK.out _ _ ⟨(H9.out.below hB1).blk.c0, (H9.out.below hB1).blk.c1, (H9.out.below hB1).blk.c2, (H9.out.below hB1).blk.c3, (H9.out.below hB1).blk.c4, (H9.out.below hB1).blk.c5, (S3.out.below hB1).c0, (S3.out.below hB1).c1, (S3.out.below hB1).c2⟩ (fun hHeld => ?_)
      clear hK K
      refine norm_ (a' := ?_) ?_ ?_
      rotate_left
      · show Act.put _ (some 75) _ = _
        simp only [Act.put, List.setIfInBounds_toArray, List.set_cons_zero, List.set_cons_succ, i64_w, i32_w]
        rfl
      refine pure_ (i := 5) (N := some 70) (v := ?_) (a' := ?_) #[true, true, true, true, true, true, false, false, false, false, false] rfl rfl (by kernel_rfl) (fun _ _ _ h => h) (Or.inl ⟨by rfl, ?_⟩) ?_ ?_
      rotate_left
      · intro w'
        go_simp
        with_reducible rfl
      rotate_left
      · simp only [Act.put, List.setIfInBounds_toArray, List.set_cons_zero, List.set_cons_succ, i64_w, i32_w]
        rfl
      refine pure_ (i := 6) (N := some 76) (v := ?_) (a' := ?_) #[true, true, true, true, true, true, true, false, false, false, false] rfl rfl (by kernel_rfl) (fun _ _ _ h => h) (Or.inl ⟨by rfl, ?_⟩) ?_ ?_
      rotate_left
      · intro w'
        go_simp
        with_reducible rfl
      rotate_left
      · simp only [Act.put, List.setIfInBounds_toArray, List.set_cons_zero, List.set_cons_succ, i64_w, i32_w]
        rfl
      refine pure_ (i := 7) (N := some 77) (v := ?_) (a' := ?_) #[true, true, true, true, true, true, true, true, false, false, false] rfl rfl (by kernel_rfl) (fun _ _ _ h => h) (Or.inl ⟨by rfl, ?_⟩) ?_ ?_
      rotate_left
      · intro w'
        go_simp
        with_reducible rfl
      rotate_left
      · simp only [Act.put, List.setIfInBounds_toArray, List.set_cons_zero, List.set_cons_succ, i64_w, i32_w]
        rfl
      refine one_ (i := 8) (N := some 11) #[true, true, true, true, true, true, true, true, true, false, false] rfl rfl (by kernel_rfl) (by decide) (fun K hK => ?_)
      refine value_ (w1 := ?_) (v := ?_) (by rfl) rfl ?_ ?_
      rotate_left 2
      · go_simp
        constructor
        all_goals rfl
      have hB2 : Below wd11.heap.size wd11 (wx1.alloc (.cells #[.slice none 0 0, .int .i64 0, .int .i64 0, .slice none 0 0, .bool false, .int .i64 0] 61)) := al hB1 _
      have hZ := EBlk.new wx1 61 (.slice none 0 0) (.slice none 0 0) 0 0 0 false
      have htle : wd11.heap.size ≤ wx1.heap.size := hB1.size
      replace hO := Kd.V_mono (Kd.V_alloc (Kd.V_bound hO) (.cells #[.slice none 0 0, .int .i64 0, .int .i64 0, .slice none 0 0, .bool false, .int .i64 0] 61)) (fun k hk => show k ≠ wx1.heap.size by have := hk.2; omega)
      replace hI := Kd.V_mono (Kd.V_alloc (Kd.V_bound hI) (.cells #[.slice none 0 0, .int .i64 0, .int .i64 0, .slice none 0 0, .bool false, .int .i64 0] 61)) (fun k hk => show k ≠ wx1.heap.size by have := hk.2; omega)
      generalize wx1.alloc (.cells #[.slice none 0 0, .int .i64 0, .int .i64 0, .slice none 0 0, .bool false, .int .i64 0] 61) = wx2 at hB2 hZ hO hI ⊢
      refine hK.out _ _ ⟨(H9.out.below hB2).blk.c0, (H9.out.below hB2).blk.c1, (H9.out.below hB2).blk.c2, (H9.out.below hB2).blk.c3, (H9.out.below hB2).blk.c4, (H9.out.below hB2).blk.c5, (S3.out.below hB2).c0, (S3.out.below hB2).c1, (S3.out.below hB2).c2⟩ (fun hHeld => ?_)
      clear hK K
      refine norm_ (a' := ?_) ?_ ?_
      rotate_left
      · show Act.put _ (some 11) _ = _
        simp only [Act.put, List.setIfInBounds_toArray, List.set_cons_zero, List.set_cons_succ, i64_w, i32_w]
        rfl
      exact norm_ (by simp only [putAll, Act.put, List.setIfInBounds_toArray, List.set_cons_zero, List.set_cons_succ] <;> rfl) (hCont (wx1.heap.size, A11, c11, D11, d11) _ ⟨hB2, htle, hZ, hO, hI⟩)
    · skip
      refine value_ (w1 := ?_) (v := ?_) (by rfl) rfl ?_ ?_
      rotate_left 2
      · go_simp
        constructor
        all_goals rfl
      have hB1 : Below wd11.heap.size wd11 (wd11.alloc (.cells #[.slice none 0 0, .int .i64 0, .int .i64 0, .slice none 0 0, .bool false, .int .i64 0] 61)) := below_one _ _
      have hZ := EBlk.new wd11 61 (.slice none 0 0) (.slice none 0 0) 0 0 0 false
      have htle : wd11.heap.size ≤ wd11.heap.size := Nat.le_refl _
      generalize wd11.alloc (.cells #[.slice none 0 0, .int .i64 0, .int .i64 0, .slice none 0 0, .bool false, .int .i64 0] 61) = wx1 at hB1 hZ ⊢
      refine hK.out _ _ ⟨(H9.out.below hB1).blk.c0, (H9.out.below hB1).blk.c1, (H9.out.below hB1).blk.c2, (H9.out.below hB1).blk.c3, (H9.out.below hB1).blk.c4, (H9.out.below hB1).blk.c5, (S3.out.below hB1).c0, (S3.out.below hB1).c1, (S3.out.below hB1).c2⟩ (fun hHeld => ?_)
      clear hK K
      refine norm_ (a' := ?_) ?_ ?_
      rotate_left
      · show Act.put _ (some 11) _ = _
        simp only [Act.put, List.setIfInBounds_toArray, List.set_cons_zero, List.set_cons_succ, i64_w, i32_w]
        rfl
      refine one_ (i := 4) (N := some 75) #[true, true, true, true, true, false, false, false, true, false, false] rfl rfl (by kernel_rfl) (by decide) (fun K hK => ?_)
      refine goes_ Try.func46 (by kernel_rfl) rfl #[.agg #[.slice A9 0 c9, .int .i64 (0), .int .i64 (1), .slice D9 1 d9, .bool true, .int .i64 (-1)], .agg #[.int .i64 (0), .bool false, .slice AB3 1 cB3], .int .i64 6] (by rfl) rfl rfl (by simp only [List.map_toArray, List.map_cons, List.map_nil]; rfl) ?_
      with_reducible refine ((show Calls Try.prog 46 #[.agg #[.slice A9 0 c9, .int .i64 (0), .int .i64 (1), .slice D9 1 d9, .bool true, .int .i64 (-1)], .agg #[.int .i64 (0), .bool false, .slice AB3 1 cB3], .int .i64 6] wx1 (Off2 ⟨[], 0, 1, [rec9], true, -1⟩ 0 _) from recv_lit (c := ⟨[], 0, 1, [rec9], true, -1⟩) (b := ⟨0, false, [rec9]⟩) sn5 wx1 rfl rfl rfl (H9.out.below hB1).o (H9.out.below hB1).i (by decide) (S3.out.below hB1).r)).mono ?_
      rintro e wx2 ⟨v, rfl, ⟨vo, vi, rfl, hO, hI⟩, hb⟩
      refine ⟨_, rfl, ?_⟩
      obtain ⟨A11, c11, rfl⟩ := Kd.V_slice hO
      obtain ⟨D11, d11, rfl⟩ := Kd.V_slice hI
      replace hO : Kd.V kL 28 wx2 0 (fun k => wx1.heap.size ≤ k) (.slice A11 0 c11) [] := hO
      replace hI : Kd.V k39 39 wx2 0 (fun k => wx1.heap.size ≤ k) (.slice D11 1 d11) [rec9] := hI
      replace hO := Kd.V_mono hO (ok' := fun k => k ≠ wd11.heap.size) (fun k hk => show k ≠ wd11.heap.size by have := heap_lt hZ; omega)
      replace hI := Kd.V_mono hI (ok' := fun k => k ≠ wd11.heap.size) (fun k hk => show k ≠ wd11.heap.size by have := heap_lt hZ; omega)
      replace hZ := hZ.below hb
      have hB2 : Below wd11.heap.size wd11 wx2 := bb hB1 hb
      clear hb
      refine hK.out _ _ ⟨(H9.out.below hB2).blk.c0, (H9.out.below hB2).blk.c1, (H9.out.below hB2).blk.c2, (H9.out.below hB2).blk.c3, (H9.out.below hB2).blk.c4, (H9.out.below hB2).blk.c5, (S3.out.below hB2).c0, (S3.out.below hB2).c1, (S3.out.below hB2).c2⟩ (fun hHeld => ?_)
      clear hK K
      refine norm_ (a' := ?_) ?_ ?_
      rotate_left
      · show Act.put _ (some 75) _ = _
        simp only [Act.put, List.setIfInBounds_toArray, List.set_cons_zero, List.set_cons_succ, i64_w, i32_w]
        rfl
      refine pure_ (i := 5) (N := some 70) (v := ?_) (a' := ?_) #[true, true, true, true, true, true, false, false, true, false, false] rfl rfl (by kernel_rfl) (fun _ _ _ h => h) (Or.inl ⟨by rfl, ?_⟩) ?_ ?_
      rotate_left
      · intro w'
        go_simp
        with_reducible rfl
      rotate_left
      · simp only [Act.put, List.setIfInBounds_toArray, List.set_cons_zero, List.set_cons_succ, i64_w, i32_w]
        rfl
      refine pure_ (i := 6) (N := some 76) (v := ?_) (a' := ?_) #[true, true, true, true, true, true, true, false, true, false, false] rfl rfl (by kernel_rfl) (fun _ _ _ h => h) (Or.inl ⟨by rfl, ?_⟩) ?_ ?_
      rotate_left
      · intro w'
        go_simp
        with_reducible rfl
      rotate_left
      · simp only [Act.put, List.setIfInBounds_toArray, List.set_cons_zero, List.set_cons_succ, i64_w, i32_w]
        rfl
      refine pure_ (i := 7) (N := some 77) (v := ?_) (a' := ?_) #[true, true, true, true, true, true, true, true, true, false, false] rfl rfl (by kernel_rfl) (fun _ _ _ h => h) (Or.inl ⟨by rfl, ?_⟩) ?_ ?_
      rotate_left
      · intro w'
        go_simp
        with_reducible rfl
      rotate_left
      · simp only [Act.put, List.setIfInBounds_toArray, List.set_cons_zero, List.set_cons_succ, i64_w, i32_w]
        rfl
      exact norm_ (by simp only [putAll, Act.put, List.setIfInBounds_toArray, List.set_cons_zero, List.set_cons_succ] <;> rfl) (hCont (wd11.heap.size, A11, c11, D11, d11) _ ⟨hB2, htle, hZ, hO, hI⟩)
  rintro ⟨t11, A11, c11, D11, d11⟩ w11 ⟨hB, htle, hZ, hO, hI⟩
  have hHeld : w11.cell? ⟨t9, 0, none⟩ = some (.slice A9 0 c9) ∧ w11.cell? ⟨t9, 1, none⟩ = some (.int .i64 (0)) ∧ w11.cell? ⟨t9, 2, none⟩ = some (.int .i64 (1)) ∧ w11.cell? ⟨t9, 3, none⟩ = some (.slice D9 1 d9) ∧ w11.cell? ⟨t9, 4, none⟩ = some (.bool true) ∧ w11.cell? ⟨t9, 5, none⟩ = some (.int .i64 (-1)) ∧ w11.cell? ⟨g3, 0, none⟩ = some (.int .i64 (0)) ∧ w11.cell? ⟨g3, 1, none⟩ = some (.bool false) ∧ w11.cell? ⟨g3, 2, none⟩ = some (.slice AB3 1 cB3) := ⟨(H9.out.below hB).blk.c0, (H9.out.below hB).blk.c1, (H9.out.below hB).blk.c2, (H9.out.below hB).blk.c3, (H9.out.below hB).blk.c4, (H9.out.below hB).blk.c5, (S3.out.below hB).c0, (S3.out.below hB).c1, (S3.out.below hB).c2⟩
  refine norm_ (a' := ?_) ?_ ?_
  rotate_left
  · simp only [putAll, Act.put, List.setIfInBounds_toArray, List.set_cons_zero, List.set_cons_succ]
    rfl
  refine last_ (i := 9) (N := none) #[true, true, true, true, true, true, true, true, true, true, false] rfl rfl (by kernel_rfl) (by decide) (fun K hK => ?_)
  have z0 := hZ.c0; have z1 := hZ.c1; have z2 := hZ.c2; have z3 := hZ.c3; have z4 := hZ.c4; have z5 := hZ.c5; have y := blk_frozen hZ
  refine skip_ (w1 := ?_) (by rfl) rfl ?_ ?_
  rotate_left
  · go_simp
    rfl
  obtain ⟨w911, hw9, Z9, F9⟩ := six hZ (.slice A11 0 c11) (0) (1) (.slice D11 1 d11) true (-1)
  rw [← hw9]
  clear hw9 z0 z1 z2 z3 z4 z5 y
  refine hK.out _ _ ?_
  clear hK K
  refine pure_ (i := 10) (N := some 12) (v := ?_) (a' := ?_) #[true, true, true, true, true, true, true, true, true, true, true] rfl rfl (by kernel_rfl) (fun _ _ _ h => h) (Or.inl ⟨by rfl, ?_⟩) ?_ ?_
  rotate_left
  · intro w'
    go_simp
    with_reducible rfl
  rotate_left
  · simp only [Act.put, List.setIfInBounds_toArray, List.set_cons_zero, List.set_cons_succ, i64_w, i32_w]
    rfl
  refine done_ (by kernel_rfl) ?_

  have hB9 : Below wd11.heap.size wd11 w911 := Fr.below F9 hB (Nat.le_refl _) (fun k hk => by omega)
  have H11 := Lib.hid (show HE w911 t11 A11 0 c11 D11 1 d11 ⟨[], 0, 1, [rec9], true, -1⟩ from ⟨Z9, (Kd.V_reads' (Kd.V_step hO (fun k hk hlt => F9.same k hlt hk))).2.2, (Kd.V_reads' (Kd.V_step hI (fun k hk hlt => F9.same k hlt hk))).2.2⟩)
  replace H1 := Lib.hid (H1.out.below hB9)
  replace H3 := Lib.hid (H3.out.below hB9)
  replace H4 := Lib.hid (H4.out.below hB9)
  replace H9 := Lib.hid (H9.out.below hB9)
  replace S3 := Lib.hid (S3.out.below hB9)
  replace B := Lib.hid (bb B.out hB9)
  clear hB9 hB htle hZ hO hI Z9 F9 hHeld
  have h110 := H11.out.blk.c0; have h111 := H11.out.blk.c1; have h112 := H11.out.blk.c2; have h113 := H11.out.blk.c3; have h114 := H11.out.blk.c4; have h115 := H11.out.blk.c5
  go_wp2_with fail
  refine (poll_calls A11 c11 D11 d11 ⟨[], 0, 1, [rec9], true, -1⟩ 6 _ H11.out.o H11.out.i (by decide)).mono ?_
  rw [sn6]
  rintro e w13 ⟨v, vl, rfl, hE, hL, hb⟩
  replace H1 := Lib.hid (H1.out.below hb)
  replace H3 := Lib.hid (H3.out.below hb)
  replace H4 := Lib.hid (H4.out.below hb)
  replace H9 := Lib.hid (H9.out.below hb)
  replace H11 := Lib.hid (H11.out.below hb)
  replace S3 := Lib.hid (S3.out.below hb)
  replace B := Lib.hid (bb B.out hb)
  obtain ⟨A13, c13, D13, d13, rfl, hO1, hI1⟩ := hE.out (n := 0) (m := 1) rfl rfl
  have O1 := Lib.hid hO1; have I1 := Lib.hid hI1
  obtain ⟨g13, k13, rfl, _, _, _⟩ := Kd.R_form hL (by decide)
  obtain ⟨AB13, cB13, hc0, hc1, hc2, hr2⟩ := B_cell83 hL (by decide)
  have S13 := Lib.hid (show HB w13 g13 ⟨1, true, []⟩ AB13 0 cB13 from ⟨hc0, hc1, hc2, hr2⟩)
  clear hc0 hc1 hc2 hr2
  clear hb hE hL hO1 hI1
  simp only [List.length_cons, List.length_nil, Nat.zero_add]
  clear h110 h111 h112 h113 h114 h115
  go_wp2_with fail
  obtain ⟨w13a, hwa⟩ : ∃ w13a, w13a = w13.alloc (.cells #[.slice A13 0 c13, .int .i64 (0), .int .i64 (1), .slice D13 1 d13, .bool false, .int .i64 (-1)] 61) := ⟨_, rfl⟩
  rw [← hwa]
  have hb : Below w13.heap.size w13 w13a := by rw [hwa]; exact below_one _ _
  obtain ⟨t13, ht13⟩ : ∃ t13, t13 = w13.heap.size := ⟨_, rfl⟩
  have H13 := Lib.hid (show HE w13a t13 A13 0 c13 D13 1 d13 ⟨[], 0, 1, [rec9], false, -1⟩ from ⟨by rw [hwa, ht13]; exact EBlk.new _ _ _ _ _ _ _ _, Kd.C_below O1.out hb, Kd.C_below I1.out hb⟩)
  rw [← ht13]
  replace H1 := Lib.hid (H1.out.below hb)
  replace H3 := Lib.hid (H3.out.below hb)
  replace H4 := Lib.hid (H4.out.below hb)
  replace H9 := Lib.hid (H9.out.below hb)
  replace H11 := Lib.hid (H11.out.below hb)
  replace S3 := Lib.hid (S3.out.below hb)
  replace S13 := Lib.hid (S13.out.below hb)
  replace B := Lib.hid (bb B.out hb)
  clear hb hwa ht13 O1 I1
  replace H1 := Lib.hid (H1.out.below (below_drew (Below.refl _ _)))
  replace H3 := Lib.hid (H3.out.below (below_drew (Below.refl _ _)))
  replace H4 := Lib.hid (H4.out.below (below_drew (Below.refl _ _)))
  replace H9 := Lib.hid (H9.out.below (below_drew (Below.refl _ _)))
  replace H11 := Lib.hid (H11.out.below (below_drew (Below.refl _ _)))
  replace H13 := Lib.hid (H13.out.below (below_drew (Below.refl _ _)))
  replace S3 := Lib.hid (S3.out.below (below_drew (Below.refl _ _)))
  replace S13 := Lib.hid (S13.out.below (below_drew (Below.refl _ _)))
  replace B := Lib.hid (bb B.out (below_drew (Below.refl _ _)))
  refine start_ (n := 11) (S := fun w' => w'.cell? ⟨t4, 0, none⟩ = some (.slice A4 1 c4) ∧ w'.cell? ⟨t4, 1, none⟩ = some (.int .i64 (0)) ∧ w'.cell? ⟨t4, 2, none⟩ = some (.int .i64 (0)) ∧ w'.cell? ⟨t4, 3, none⟩ = some (.slice D4 0 d4) ∧ w'.cell? ⟨t4, 4, none⟩ = some (.bool false) ∧ w'.cell? ⟨t4, 5, none⟩ = some (.int .i64 (8)) ∧ w'.cell? ⟨g13, 0, none⟩ = some (.int .i64 (1)) ∧ w'.cell? ⟨g13, 1, none⟩ = some (.bool true) ∧ w'.cell? ⟨g13, 2, none⟩ = some (.slice AB13 0 cB13)) (ds := [9]) #[false, false, false, false, false, false, false, false, false, false, false] (by kernel_rfl) rfl rfl ⟨(H4.out.below (Below.refl _ _)).blk.c0, (H4.out.below (Below.refl _ _)).blk.c1, (H4.out.below (Below.refl _ _)).blk.c2, (H4.out.below (Below.refl _ _)).blk.c3, (H4.out.below (Below.refl _ _)).blk.c4, (H4.out.below (Below.refl _ _)).blk.c5, (S13.out.below (Below.refl _ _)).c0, (S13.out.below (Below.refl _ _)).c1, (S13.out.below (Below.refl _ _)).c2⟩ (fun hHeld => ?_)
  generalize w13a.drew = wd16 at H1 H3 H4 H9 H11 H13 S3 S13 B hHeld ⊢
  refine pure_ (i := 1) (N := some 101) (v := ?_) (a' := ?_) #[false, true, false, false, false, false, false, false, false, false, false] rfl rfl (by kernel_rfl) (fun _ _ _ h => h) (Or.inl ⟨by rfl, ?_⟩) ?_ ?_
  rotate_left
  · intro w'
    go_simp
    with_reducible rfl
  rotate_left
  · simp only [Act.put, List.setIfInBounds_toArray, List.set_cons_zero, List.set_cons_succ, i64_w, i32_w]
    rfl
  refine pure_ (i := 2) (N := some 102) (v := ?_) (a' := ?_) #[false, true, true, false, false, false, false, false, false, false, false] rfl rfl (by kernel_rfl) (fun _ _ _ h => h) (Or.inl ⟨by rfl, ?_⟩) ?_ ?_
  rotate_left
  · intro w'
    go_simp
    with_reducible rfl
  rotate_left
  · simp only [Act.put, List.setIfInBounds_toArray, List.set_cons_zero, List.set_cons_succ, i64_w, i32_w]
    rfl
  refine take_ (i := 0) (N := some 100) (v := ?_) (a' := ?_) #[true, true, true, false, false, false, false, false, false, false, false] rfl rfl (by kernel_rfl) (fun _ _ _ h => h) (Or.inl ⟨by rfl, ?_⟩) hHeld ?_ ?_
  rotate_left
  · rintro w' ⟨s0, s1, s2, s3, s4, s5, s6, s7, s8⟩
    go_simp
    with_reducible rfl
  rotate_left
  · simp only [Act.put, List.setIfInBounds_toArray, List.set_cons_zero, List.set_cons_succ, i64_w, i32_w]
    rfl
  refine take_ (i := 3) (N := some 103) (v := ?_) (a' := ?_) #[true, true, true, true, false, false, false, false, false, false, false] rfl rfl (by kernel_rfl) (fun _ _ _ h => h) (Or.inl ⟨by rfl, ?_⟩) hHeld ?_ ?_
  rotate_left
  · rintro w' ⟨s0, s1, s2, s3, s4, s5, s6, s7, s8⟩
    go_simp
    with_reducible rfl
  rotate_left
  · simp only [Act.put, List.setIfInBounds_toArray, List.set_cons_zero, List.set_cons_succ, i64_w, i32_w]
    rfl
  refine join_ (σ := Nat × Option Addr × Nat × Option Addr × Nat) 2 #[true, true, true, true, true, true, true, true, true, false, false] (fun s => [(104, .tuple #[.agg #[.slice (s.2.1) 0 (s.2.2.1), .int .i64 (1), .int .i64 (0), .slice (s.2.2.2.1) 0 (s.2.2.2.2), .bool false, .int .i64 (-1)], .int .i64 0]), (16, .pointer (some ⟨s.1, 0, none⟩)), (99, .tuple #[.agg #[.slice (s.2.1) 0 (s.2.2.1), .int .i64 (1), .int .i64 (0), .slice (s.2.2.2.1) 0 (s.2.2.2.2), .bool false, .int .i64 (-1)], .int .i64 0]), (105, .agg #[.slice (s.2.1) 0 (s.2.2.1), .int .i64 (1), .int .i64 (0), .slice (s.2.2.2.1) 0 (s.2.2.2.2), .bool false, .int .i64 (-1)]), (106, .int .i64 0)]) (fun s w' => Below wd16.heap.size wd16 w' ∧ wd16.heap.size ≤ s.1 ∧ EBlk w' s.1 61 (.slice none 0 0) 0 0 (.slice none 0 0) false 0 ∧ Kd.V kL 28 w' 0 (fun k => k ≠ s.1) (.slice s.2.1 0 s.2.2.1) [] ∧ Kd.V k39 39 w' 0 (fun k => k ≠ s.1) (.slice s.2.2.2.1 0 s.2.2.2.2) []) ?_ ?_
  rotate_left
  · intro hCont
    refine two_ (i := 4) (j := 8) (Ni := some 104) (Nj := some 16) #[true, true, true, true, true, false, false, false, false, false, false] #[true, true, true, true, false, false, false, false, true, false, false] rfl rfl rfl rfl (by kernel_rfl) (by decide) (by decide) (fun K hK => ?_) (fun K hK => ?_)
    · skip
      refine goes_ Try.func46 (by kernel_rfl) rfl #[.agg #[.slice A4 1 c4, .int .i64 (0), .int .i64 (0), .slice D4 0 d4, .bool false, .int .i64 (8)], .agg #[.int .i64 (1), .bool true, .slice AB13 0 cB13], .int .i64 7] (by rfl) rfl rfl (by simp only [List.map_toArray, List.map_cons, List.map_nil]; rfl) ?_
      with_reducible refine ((show Calls Try.prog 46 #[.agg #[.slice A4 1 c4, .int .i64 (0), .int .i64 (0), .slice D4 0 d4, .bool false, .int .i64 (8)], .agg #[.int .i64 (1), .bool true, .slice AB13 0 cB13], .int .i64 7] wd16 (Off2 ⟨[], 1, 0, [], false, -1⟩ 0 _) from recv_lit (c := ⟨[[rec9]], 0, 0, [], false, 8⟩) (b := ⟨1, true, []⟩) sn7 wd16 rfl rfl rfl (H4.out.below (Below.refl _ _)).o (H4.out.below (Below.refl _ _)).i (by decide) (S13.out.below (Below.refl _ _)).r)).mono ?_
      rintro e wx1 ⟨v, rfl, ⟨vo, vi, rfl, hO, hI⟩, hb⟩
      refine ⟨_, rfl, ?_⟩
      obtain ⟨A16, c16, rfl⟩ := Kd.V_slice hO
      obtain ⟨D16, d16, rfl⟩ := Kd.V_slice hI
      replace hO : Kd.V kL 28 wx1 0 (fun k => wd16.heap.size ≤ k) (.slice A16 0 c16) [] := hO
      replace hI : Kd.V k39 39 wx1 0 (fun k => wd16.heap.size ≤ k) (.slice D16 0 d16) [] := hI
      have hB1 : Below wd16.heap.size wd16 wx1 := hb
      clear hb
      refine hK.out _ _ ⟨(H4.out.below hB1).blk.c0, (H4.out.below hB1).blk.c1, (H4.out.below hB1).blk.c2, (H4.out.below hB1).blk.c3, (H4.out.below hB1).blk.c4, (H4.out.below hB1).blk.c5, (S13.out.below hB1).c0, (S13.out.below hB1).c1, (S13.out.below hB1).c2⟩ (fun hHeld => ?_)
      clear hK K
      refine norm_ (a' := ?_) ?_ ?_
      rotate_left
      · show Act.put _ (some 104) _ = _
        simp only [Act.put, List.setIfInBounds_toArray, List.set_cons_zero, List.set_cons_succ, i64_w, i32_w]
        rfl
      refine pure_ (i := 5) (N := some 99) (v := ?_) (a' := ?_) #[true, true, true, true, true, true, false, false, false, false, false] rfl rfl (by kernel_rfl) (fun _ _ _ h => h) (Or.inl ⟨by rfl, ?_⟩) ?_ ?_
      rotate_left
      · intro w'
        go_simp
        with_reducible rfl
      rotate_left
      · simp only [Act.put, List.setIfInBounds_toArray, List.set_cons_zero, List.set_cons_succ, i64_w, i32_w]
        rfl
      refine pure_ (i := 6) (N := some 105) (v := ?_) (a' := ?_) #[true, true, true, true, true, true, true, false, false, false, false] rfl rfl (by kernel_rfl) (fun _ _ _ h => h) (Or.inl ⟨by rfl, ?_⟩) ?_ ?_
      rotate_left
      · intro w'
        go_simp
        with_reducible rfl
      rotate_left
      · simp only [Act.put, List.setIfInBounds_toArray, List.set_cons_zero, List.set_cons_succ, i64_w, i32_w]
        rfl
      refine pure_ (i := 7) (N := some 106) (v := ?_) (a' := ?_) #[true, true, true, true, true, true, true, true, false, false, false] rfl rfl (by kernel_rfl) (fun _ _ _ h => h) (Or.inl ⟨by rfl, ?_⟩) ?_ ?_
      rotate_left
      · intro w'
        go_simp
        with_reducible rfl
      rotate_left
      · simp only [Act.put, List.setIfInBounds_toArray, List.set_cons_zero, List.set_cons_succ, i64_w, i32_w]
        rfl
      refine one_ (i := 8) (N := some 16) #[true, true, true, true, true, true, true, true, true, false, false] rfl rfl (by kernel_rfl) (by decide) (fun K hK => ?_)
      refine value_ (w1 := ?_) (v := ?_) (by rfl) rfl ?_ ?_
      rotate_left 2
      · go_simp
        constructor
        all_goals rfl
      have hB2 : Below wd16.heap.size wd16 (wx1.alloc (.cells #[.slice none 0 0, .int .i64 0, .int .i64 0, .slice none 0 0, .bool false, .int .i64 0] 61)) := al hB1 _
      have hZ := EBlk.new wx1 61 (.slice none 0 0) (.slice none 0 0) 0 0 0 false
      have htle : wd16.heap.size ≤ wx1.heap.size := hB1.size
      replace hO := Kd.V_mono (Kd.V_alloc (Kd.V_bound hO) (.cells #[.slice none 0 0, .int .i64 0, .int .i64 0, .slice none 0 0, .bool false, .int .i64 0] 61)) (fun k hk => show k ≠ wx1.heap.size by have := hk.2; omega)
      replace hI := Kd.V_mono (Kd.V_alloc (Kd.V_bound hI) (.cells #[.slice none 0 0, .int .i64 0, .int .i64 0, .slice none 0 0, .bool false, .int .i64 0] 61)) (fun k hk => show k ≠ wx1.heap.size by have := hk.2; omega)
      generalize wx1.alloc (.cells #[.slice none 0 0, .int .i64 0, .int .i64 0, .slice none 0 0, .bool false, .int .i64 0] 61) = wx2 at hB2 hZ hO hI ⊢
      refine hK.out _ _ ⟨(H4.out.below hB2).blk.c0, (H4.out.below hB2).blk.c1, (H4.out.below hB2).blk.c2, (H4.out.below hB2).blk.c3, (H4.out.below hB2).blk.c4, (H4.out.below hB2).blk.c5, (S13.out.below hB2).c0, (S13.out.below hB2).c1, (S13.out.below hB2).c2⟩ (fun hHeld => ?_)
      clear hK K
      refine norm_ (a' := ?_) ?_ ?_
      rotate_left
      · show Act.put _ (some 16) _ = _
        simp only [Act.put, List.setIfInBounds_toArray, List.set_cons_zero, List.set_cons_succ, i64_w, i32_w]
        rfl
      exact norm_ (by simp only [putAll, Act.put, List.setIfInBounds_toArray, List.set_cons_zero, List.set_cons_succ] <;> rfl) (hCont (wx1.heap.size, A16, c16, D16, d16) _ ⟨hB2, htle, hZ, hO, hI⟩)
    · skip
      refine value_ (w1 := ?_) (v := ?_) (by rfl) rfl ?_ ?_
      rotate_left 2
      · go_simp
        constructor
        all_goals rfl
      have hB1 : Below wd16.heap.size wd16 (wd16.alloc (.cells #[.slice none 0 0, .int .i64 0, .int .i64 0, .slice none 0 0, .bool false, .int .i64 0] 61)) := below_one _ _
      have hZ := EBlk.new wd16 61 (.slice none 0 0) (.slice none 0 0) 0 0 0 false
      have htle : wd16.heap.size ≤ wd16.heap.size := Nat.le_refl _
      generalize wd16.alloc (.cells #[.slice none 0 0, .int .i64 0, .int .i64 0, .slice none 0 0, .bool false, .int .i64 0] 61) = wx1 at hB1 hZ ⊢
      refine hK.out _ _ ⟨(H4.out.below hB1).blk.c0, (H4.out.below hB1).blk.c1, (H4.out.below hB1).blk.c2, (H4.out.below hB1).blk.c3, (H4.out.below hB1).blk.c4, (H4.out.below hB1).blk.c5, (S13.out.below hB1).c0, (S13.out.below hB1).c1, (S13.out.below hB1).c2⟩ (fun hHeld => ?_)
      clear hK K
      refine norm_ (a' := ?_) ?_ ?_
      rotate_left
      · show Act.put _ (some 16) _ = _
        simp only [Act.put, List.setIfInBounds_toArray, List.set_cons_zero, List.set_cons_succ, i64_w, i32_w]
        rfl
      refine one_ (i := 4) (N := some 104) #[true, true, true, true, true, false, false, false, true, false, false] rfl rfl (by kernel_rfl) (by decide) (fun K hK => ?_)
      refine goes_ Try.func46 (by kernel_rfl) rfl #[.agg #[.slice A4 1 c4, .int .i64 (0), .int .i64 (0), .slice D4 0 d4, .bool false, .int .i64 (8)], .agg #[.int .i64 (1), .bool true, .slice AB13 0 cB13], .int .i64 7] (by rfl) rfl rfl (by simp only [List.map_toArray, List.map_cons, List.map_nil]; rfl) ?_
      with_reducible refine ((show Calls Try.prog 46 #[.agg #[.slice A4 1 c4, .int .i64 (0), .int .i64 (0), .slice D4 0 d4, .bool false, .int .i64 (8)], .agg #[.int .i64 (1), .bool true, .slice AB13 0 cB13], .int .i64 7] wx1 (Off2 ⟨[], 1, 0, [], false, -1⟩ 0 _) from recv_lit (c := ⟨[[rec9]], 0, 0, [], false, 8⟩) (b := ⟨1, true, []⟩) sn7 wx1 rfl rfl rfl (H4.out.below hB1).o (H4.out.below hB1).i (by decide) (S13.out.below hB1).r)).mono ?_
      rintro e wx2 ⟨v, rfl, ⟨vo, vi, rfl, hO, hI⟩, hb⟩
      refine ⟨_, rfl, ?_⟩
      obtain ⟨A16, c16, rfl⟩ := Kd.V_slice hO
      obtain ⟨D16, d16, rfl⟩ := Kd.V_slice hI
      replace hO : Kd.V kL 28 wx2 0 (fun k => wx1.heap.size ≤ k) (.slice A16 0 c16) [] := hO
      replace hI : Kd.V k39 39 wx2 0 (fun k => wx1.heap.size ≤ k) (.slice D16 0 d16) [] := hI
      replace hO := Kd.V_mono hO (ok' := fun k => k ≠ wd16.heap.size) (fun k hk => show k ≠ wd16.heap.size by have := heap_lt hZ; omega)
      replace hI := Kd.V_mono hI (ok' := fun k => k ≠ wd16.heap.size) (fun k hk => show k ≠ wd16.heap.size by have := heap_lt hZ; omega)
      replace hZ := hZ.below hb
      have hB2 : Below wd16.heap.size wd16 wx2 := bb hB1 hb
      clear hb
      refine hK.out _ _ ⟨(H4.out.below hB2).blk.c0, (H4.out.below hB2).blk.c1, (H4.out.below hB2).blk.c2, (H4.out.below hB2).blk.c3, (H4.out.below hB2).blk.c4, (H4.out.below hB2).blk.c5, (S13.out.below hB2).c0, (S13.out.below hB2).c1, (S13.out.below hB2).c2⟩ (fun hHeld => ?_)
      clear hK K
      refine norm_ (a' := ?_) ?_ ?_
      rotate_left
      · show Act.put _ (some 104) _ = _
        simp only [Act.put, List.setIfInBounds_toArray, List.set_cons_zero, List.set_cons_succ, i64_w, i32_w]
        rfl
      refine pure_ (i := 5) (N := some 99) (v := ?_) (a' := ?_) #[true, true, true, true, true, true, false, false, true, false, false] rfl rfl (by kernel_rfl) (fun _ _ _ h => h) (Or.inl ⟨by rfl, ?_⟩) ?_ ?_
      rotate_left
      · intro w'
        go_simp
        with_reducible rfl
      rotate_left
      · simp only [Act.put, List.setIfInBounds_toArray, List.set_cons_zero, List.set_cons_succ, i64_w, i32_w]
        rfl
      refine pure_ (i := 6) (N := some 105) (v := ?_) (a' := ?_) #[true, true, true, true, true, true, true, false, true, false, false] rfl rfl (by kernel_rfl) (fun _ _ _ h => h) (Or.inl ⟨by rfl, ?_⟩) ?_ ?_
      rotate_left
      · intro w'
        go_simp
        with_reducible rfl
      rotate_left
      · simp only [Act.put, List.setIfInBounds_toArray, List.set_cons_zero, List.set_cons_succ, i64_w, i32_w]
        rfl
      refine pure_ (i := 7) (N := some 106) (v := ?_) (a' := ?_) #[true, true, true, true, true, true, true, true, true, false, false] rfl rfl (by kernel_rfl) (fun _ _ _ h => h) (Or.inl ⟨by rfl, ?_⟩) ?_ ?_
      rotate_left
      · intro w'
        go_simp
        with_reducible rfl
      rotate_left
      · simp only [Act.put, List.setIfInBounds_toArray, List.set_cons_zero, List.set_cons_succ, i64_w, i32_w]
        rfl
      exact norm_ (by simp only [putAll, Act.put, List.setIfInBounds_toArray, List.set_cons_zero, List.set_cons_succ] <;> rfl) (hCont (wd16.heap.size, A16, c16, D16, d16) _ ⟨hB2, htle, hZ, hO, hI⟩)
  rintro ⟨t16, A16, c16, D16, d16⟩ w16 ⟨hB, htle, hZ, hO, hI⟩
  have hHeld : w16.cell? ⟨t4, 0, none⟩ = some (.slice A4 1 c4) ∧ w16.cell? ⟨t4, 1, none⟩ = some (.int .i64 (0)) ∧ w16.cell? ⟨t4, 2, none⟩ = some (.int .i64 (0)) ∧ w16.cell? ⟨t4, 3, none⟩ = some (.slice D4 0 d4) ∧ w16.cell? ⟨t4, 4, none⟩ = some (.bool false) ∧ w16.cell? ⟨t4, 5, none⟩ = some (.int .i64 (8)) ∧ w16.cell? ⟨g13, 0, none⟩ = some (.int .i64 (1)) ∧ w16.cell? ⟨g13, 1, none⟩ = some (.bool true) ∧ w16.cell? ⟨g13, 2, none⟩ = some (.slice AB13 0 cB13) := ⟨(H4.out.below hB).blk.c0, (H4.out.below hB).blk.c1, (H4.out.below hB).blk.c2, (H4.out.below hB).blk.c3, (H4.out.below hB).blk.c4, (H4.out.below hB).blk.c5, (S13.out.below hB).c0, (S13.out.below hB).c1, (S13.out.below hB).c2⟩
  refine norm_ (a' := ?_) ?_ ?_
  rotate_left
  · simp only [putAll, Act.put, List.setIfInBounds_toArray, List.set_cons_zero, List.set_cons_succ]
    rfl
  refine last_ (i := 9) (N := none) #[true, true, true, true, true, true, true, true, true, true, false] rfl rfl (by kernel_rfl) (by decide) (fun K hK => ?_)
  have z0 := hZ.c0; have z1 := hZ.c1; have z2 := hZ.c2; have z3 := hZ.c3; have z4 := hZ.c4; have z5 := hZ.c5; have y := blk_frozen hZ
  refine skip_ (w1 := ?_) (by rfl) rfl ?_ ?_
  rotate_left
  · go_simp
    rfl
  obtain ⟨w916, hw9, Z9, F9⟩ := six hZ (.slice A16 0 c16) (1) (0) (.slice D16 0 d16) false (-1)
  rw [← hw9]
  clear hw9 z0 z1 z2 z3 z4 z5 y
  refine hK.out _ _ ?_
  clear hK K
  refine pure_ (i := 10) (N := some 17) (v := ?_) (a' := ?_) #[true, true, true, true, true, true, true, true, true, true, true] rfl rfl (by kernel_rfl) (fun _ _ _ h => h) (Or.inl ⟨by rfl, ?_⟩) ?_ ?_
  rotate_left
  · intro w'
    go_simp
    with_reducible rfl
  rotate_left
  · simp only [Act.put, List.setIfInBounds_toArray, List.set_cons_zero, List.set_cons_succ, i64_w, i32_w]
    rfl
  refine done_ (by kernel_rfl) ?_

  have hB9 : Below wd16.heap.size wd16 w916 := Fr.below F9 hB (Nat.le_refl _) (fun k hk => by omega)
  have H16 := Lib.hid (show HE w916 t16 A16 0 c16 D16 0 d16 ⟨[], 1, 0, [], false, -1⟩ from ⟨Z9, (Kd.V_reads' (Kd.V_step hO (fun k hk hlt => F9.same k hlt hk))).2.2, (Kd.V_reads' (Kd.V_step hI (fun k hk hlt => F9.same k hlt hk))).2.2⟩)
  replace H1 := Lib.hid (H1.out.below hB9)
  replace H3 := Lib.hid (H3.out.below hB9)
  replace H4 := Lib.hid (H4.out.below hB9)
  replace H9 := Lib.hid (H9.out.below hB9)
  replace H11 := Lib.hid (H11.out.below hB9)
  replace H13 := Lib.hid (H13.out.below hB9)
  replace S3 := Lib.hid (S3.out.below hB9)
  replace S13 := Lib.hid (S13.out.below hB9)
  replace B := Lib.hid (bb B.out hB9)
  clear hB9 hB htle hZ hO hI Z9 F9 hHeld
  have h40 := H4.out.blk.c0; have h41 := H4.out.blk.c1; have h42 := H4.out.blk.c2; have h43 := H4.out.blk.c3; have h44 := H4.out.blk.c4; have h45 := H4.out.blk.c5
  go_wp2_with fail
  refine (recv_lit (c := ⟨[[rec9]], 0, 0, [], false, 8⟩) (b := ⟨2, true, []⟩) sn8 _ rfl rfl rfl H4.out.o H4.out.i (by decide) (Kd.C_nil _ _)).mono ?_
  rintro e w18 ⟨v, rfl, hE, hb⟩
  replace H1 := Lib.hid (H1.out.below hb)
  replace H3 := Lib.hid (H3.out.below hb)
  replace H4 := Lib.hid (H4.out.below hb)
  replace H9 := Lib.hid (H9.out.below hb)
  replace H11 := Lib.hid (H11.out.below hb)
  replace H13 := Lib.hid (H13.out.below hb)
  replace H16 := Lib.hid (H16.out.below hb)
  replace S3 := Lib.hid (S3.out.below hb)
  replace S13 := Lib.hid (S13.out.below hb)
  replace B := Lib.hid (bb B.out hb)
  obtain ⟨A18, c18, D18, d18, rfl, hO1, hI1⟩ := hE.out (n := 0) (m := 0) rfl rfl
  have O1 := Lib.hid hO1; have I1 := Lib.hid hI1
  clear hb hE hO1 hI1 h40 h41 h42 h43 h44 h45
  simp only [z61]
  go_wp2_with fail
  obtain ⟨w18a, hwa⟩ : ∃ w18a, w18a = w18.alloc (.cells #[.slice A18 0 c18, .int .i64 (0), .int .i64 (0), .slice D18 0 d18, .bool false, .int .i64 (0)] 61) := ⟨_, rfl⟩
  rw [← hwa]
  have hb : Below w18.heap.size w18 w18a := by rw [hwa]; exact below_one _ _
  obtain ⟨t18, ht18⟩ : ∃ t18, t18 = w18.heap.size := ⟨_, rfl⟩
  have H18 := Lib.hid (show HE w18a t18 A18 0 c18 D18 0 d18 ⟨[], 0, 0, [], false, 0⟩ from ⟨by rw [hwa, ht18]; exact EBlk.new _ _ _ _ _ _ _ _, Kd.C_below O1.out hb, Kd.C_below I1.out hb⟩)
  rw [← ht18]
  replace H1 := Lib.hid (H1.out.below hb)
  replace H3 := Lib.hid (H3.out.below hb)
  replace H4 := Lib.hid (H4.out.below hb)
  replace H9 := Lib.hid (H9.out.below hb)
  replace H11 := Lib.hid (H11.out.below hb)
  replace H13 := Lib.hid (H13.out.below hb)
  replace H16 := Lib.hid (H16.out.below hb)
  replace S3 := Lib.hid (S3.out.below hb)
  replace S13 := Lib.hid (S13.out.below hb)
  replace B := Lib.hid (bb B.out hb)
  clear hb hwa ht18 O1 I1
  replace H1 := Lib.hid (H1.out.below (below_drew (Below.refl _ _)))
  replace H3 := Lib.hid (H3.out.below (below_drew (Below.refl _ _)))
  replace H4 := Lib.hid (H4.out.below (below_drew (Below.refl _ _)))
  replace H9 := Lib.hid (H9.out.below (below_drew (Below.refl _ _)))
  replace H11 := Lib.hid (H11.out.below (below_drew (Below.refl _ _)))
  replace H13 := Lib.hid (H13.out.below (below_drew (Below.refl _ _)))
  replace H16 := Lib.hid (H16.out.below (below_drew (Below.refl _ _)))
  replace H18 := Lib.hid (H18.out.below (below_drew (Below.refl _ _)))
  replace S3 := Lib.hid (S3.out.below (below_drew (Below.refl _ _)))
  replace S13 := Lib.hid (S13.out.below (below_drew (Below.refl _ _)))
  replace B := Lib.hid (bb B.out (below_drew (Below.refl _ _)))
  refine start_ (n := 13) (S := fun w' => w'.cell? ⟨t9, 0, none⟩ = some (.slice A9 0 c9) ∧ w'.cell? ⟨t9, 1, none⟩ = some (.int .i64 (0)) ∧ w'.cell? ⟨t9, 2, none⟩ = some (.int .i64 (1)) ∧ w'.cell? ⟨t9, 3, none⟩ = some (.slice D9 1 d9) ∧ w'.cell? ⟨t9, 4, none⟩ = some (.bool true) ∧ w'.cell? ⟨t9, 5, none⟩ = some (.int .i64 (-1)) ∧ w'.cell? ⟨g3, 2, none⟩ = some (.slice AB3 1 cB3)) (ds := [11]) #[false, false, false, false, false, false, false, false, false, false, false, false, false] (by kernel_rfl) rfl rfl ⟨(H9.out.below (Below.refl _ _)).blk.c0, (H9.out.below (Below.refl _ _)).blk.c1, (H9.out.below (Below.refl _ _)).blk.c2, (H9.out.below (Below.refl _ _)).blk.c3, (H9.out.below (Below.refl _ _)).blk.c4, (H9.out.below (Below.refl _ _)).blk.c5, (S3.out.below (Below.refl _ _)).c2⟩ (fun hHeld => ?_)
  generalize w18a.drew = wd20 at H1 H3 H4 H9 H11 H13 H16 H18 S3 S13 B hHeld ⊢
  refine pure_ (i := 1) (N := some 115) (v := ?_) (a' := ?_) #[false, true, false, false, false, false, false, false, false, false, false, false, false] rfl rfl (by kernel_rfl) (fun _ _ _ h => h) (Or.inl ⟨by rfl, ?_⟩) ?_ ?_
  rotate_left
  · intro w'
    go_simp
    with_reducible rfl
  rotate_left
  · simp only [Act.put, List.setIfInBounds_toArray, List.set_cons_zero, List.set_cons_succ, i64_w, i32_w]
    rfl
  refine pure_ (i := 2) (N := some 116) (v := ?_) (a' := ?_) #[false, true, true, false, false, false, false, false, false, false, false, false, false] rfl rfl (by kernel_rfl) (fun _ _ _ h => h) (Or.inl ⟨by rfl, ?_⟩) ?_ ?_
  rotate_left
  · intro w'
    go_simp
    with_reducible rfl
  rotate_left
  · simp only [Act.put, List.setIfInBounds_toArray, List.set_cons_zero, List.set_cons_succ, i64_w, i32_w]
    rfl
  refine pure_ (i := 3) (N := some 117) (v := ?_) (a' := ?_) #[false, true, true, true, false, false, false, false, false, false, false, false, false] rfl rfl (by kernel_rfl) (fun _ _ _ h => h) (Or.inl ⟨by rfl, ?_⟩) ?_ ?_
  rotate_left
  · intro w'
    go_simp
    with_reducible rfl
  rotate_left
  · simp only [Act.put, List.setIfInBounds_toArray, List.set_cons_zero, List.set_cons_succ, i64_w, i32_w]
    rfl
  refine take_ (i := 0) (N := some 114) (v := ?_) (a' := ?_) #[true, true, true, true, false, false, false, false, false, false, false, false, false] rfl rfl (by kernel_rfl) (fun _ _ _ h => h) (Or.inl ⟨by rfl, ?_⟩) hHeld ?_ ?_
  rotate_left
  · rintro w' ⟨s0, s1, s2, s3, s4, s5, s6⟩
    go_simp
    with_reducible rfl
  rotate_left
  · simp only [Act.put, List.setIfInBounds_toArray, List.set_cons_zero, List.set_cons_succ, i64_w, i32_w]
    rfl
  refine take_ (i := 4) (N := some 118) (v := ?_) (a' := ?_) #[true, true, true, true, true, false, false, false, false, false, false, false, false] rfl rfl (by kernel_rfl) (fun _ _ _ h => h) (Or.inl ⟨by rfl, ?_⟩) hHeld ?_ ?_
  rotate_left
  · rintro w' ⟨s0, s1, s2, s3, s4, s5, s6⟩
    go_simp
    with_reducible rfl
  rotate_left
  · simp only [Act.put, List.setIfInBounds_toArray, List.set_cons_zero, List.set_cons_succ, i64_w, i32_w]
    rfl
  refine pure_ (i := 5) (N := some 119) (v := ?_) (a' := ?_) #[true, true, true, true, true, true, false, false, false, false, false, false, false] rfl rfl (by kernel_rfl) (fun _ _ _ h => h) (Or.inl ⟨by rfl, ?_⟩) ?_ ?_
  rotate_left
  · intro w'
    go_simp
    with_reducible rfl
  rotate_left
  · simp only [Act.put, List.setIfInBounds_toArray, List.set_cons_zero, List.set_cons_succ, i64_w, i32_w]
    rfl
  refine join_ (σ := Nat × Option Addr × Nat × Option Addr × Nat) 2 #[true, true, true, true, true, true, true, true, true, true, true, false, false] (fun s => [(120, .tuple #[.agg #[.slice (s.2.1) 0 (s.2.2.1), .int .i64 (0), .int .i64 (0), .slice (s.2.2.2.1) 0 (s.2.2.2.2), .bool false, .int .i64 (0)], .int .i64 300]), (20, .pointer (some ⟨s.1, 0, none⟩)), (113, .tuple #[.agg #[.slice (s.2.1) 0 (s.2.2.1), .int .i64 (0), .int .i64 (0), .slice (s.2.2.2.1) 0 (s.2.2.2.2), .bool false, .int .i64 (0)], .int .i64 300]), (121, .agg #[.slice (s.2.1) 0 (s.2.2.1), .int .i64 (0), .int .i64 (0), .slice (s.2.2.2.1) 0 (s.2.2.2.2), .bool false, .int .i64 (0)]), (122, .int .i64 300)]) (fun s w' => Below wd20.heap.size wd20 w' ∧ wd20.heap.size ≤ s.1 ∧ EBlk w' s.1 61 (.slice none 0 0) 0 0 (.slice none 0 0) false 0 ∧ Kd.V kL 28 w' 0 (fun k => k ≠ s.1) (.slice s.2.1 0 s.2.2.1) [] ∧ Kd.V k39 39 w' 0 (fun k => k ≠ s.1) (.slice s.2.2.2.1 0 s.2.2.2.2) []) ?_ ?_
  rotate_left
  · intro hCont
    refine two_ (i := 6) (j := 10) (Ni := some 120) (Nj := some 20) #[true, true, true, true, true, true, true, false, false, false, false, false, false] #[true, true, true, true, true, true, false, false, false, false, true, false, false] rfl rfl rfl rfl (by kernel_rfl) (by decide) (by decide) (fun K hK => ?_) (fun K hK => ?_)
    · skip
      refine goes_ Try.func46 (by kernel_rfl) rfl #[.agg #[.slice A9 0 c9, .int .i64 (0), .int .i64 (1), .slice D9 1 d9, .bool true, .int .i64 (-1)], .agg #[.int .i64 2, .bool false, .slice AB3 1 cB3], .int .i64 7] (by rfl) rfl rfl (by simp only [List.map_toArray, List.map_cons, List.map_nil]; rfl) ?_
      with_reducible refine ((show Calls Try.prog 46 #[.agg #[.slice A9 0 c9, .int .i64 (0), .int .i64 (1), .slice D9 1 d9, .bool true, .int .i64 (-1)], .agg #[.int .i64 2, .bool false, .slice AB3 1 cB3], .int .i64 7] wd20 (Off2 ⟨[], 0, 0, [], false, 0⟩ 300 _) from recv_lit (c := ⟨[], 0, 1, [rec9], true, -1⟩) (b := ⟨2, false, [rec9]⟩) sn9 wd20 rfl rfl rfl (H9.out.below (Below.refl _ _)).o (H9.out.below (Below.refl _ _)).i (by decide) (S3.out.below (Below.refl _ _)).r)).mono ?_
      rintro e wx1 ⟨v, rfl, ⟨vo, vi, rfl, hO, hI⟩, hb⟩
      refine ⟨_, rfl, ?_⟩
      obtain ⟨A20, c20, rfl⟩ := Kd.V_slice hO
      obtain ⟨D20, d20, rfl⟩ := Kd.V_slice hI
      replace hO : Kd.V kL 28 wx1 0 (fun k => wd20.heap.size ≤ k) (.slice A20 0 c20) [] := hO
      replace hI : Kd.V k39 39 wx1 0 (fun k => wd20.heap.size ≤ k) (.slice D20 0 d20) [] := hI
      have hB1 : Below wd20.heap.size wd20 wx1 := hb
      clear hb
      refine hK.out _ _ ⟨(H9.out.below hB1).blk.c0, (H9.out.below hB1).blk.c1, (H9.out.below hB1).blk.c2, (H9.out.below hB1).blk.c3, (H9.out.below hB1).blk.c4, (H9.out.below hB1).blk.c5, (S3.out.below hB1).c2⟩ (fun hHeld => ?_)
      clear hK K
      refine norm_ (a' := ?_) ?_ ?_
      rotate_left
      · show Act.put _ (some 120) _ = _
        simp only [Act.put, List.setIfInBounds_toArray, List.set_cons_zero, List.set_cons_succ, i64_w, i32_w]
        rfl
      refine pure_ (i := 7) (N := some 113) (v := ?_) (a' := ?_) #[true, true, true, true, true, true, true, true, false, false, false, false, false] rfl rfl (by kernel_rfl) (fun _ _ _ h => h) (Or.inl ⟨by rfl, ?_⟩) ?_ ?_
      rotate_left
      · intro w'
        go_simp
        with_reducible rfl
      rotate_left
      · simp only [Act.put, List.setIfInBounds_toArray, List.set_cons_zero, List.set_cons_succ, i64_w, i32_w]
        rfl
      refine pure_ (i := 8) (N := some 121) (v := ?_) (a' := ?_) #[true, true, true, true, true, true, true, true, true, false, false, false, false] rfl rfl (by kernel_rfl) (fun _ _ _ h => h) (Or.inl ⟨by rfl, ?_⟩) ?_ ?_
      rotate_left
      · intro w'
        go_simp
        with_reducible rfl
      rotate_left
      · simp only [Act.put, List.setIfInBounds_toArray, List.set_cons_zero, List.set_cons_succ, i64_w, i32_w]
        rfl
      refine pure_ (i := 9) (N := some 122) (v := ?_) (a' := ?_) #[true, true, true, true, true, true, true, true, true, true, false, false, false] rfl rfl (by kernel_rfl) (fun _ _ _ h => h) (Or.inl ⟨by rfl, ?_⟩) ?_ ?_
      rotate_left
      · intro w'
        go_simp
        with_reducible rfl
      rotate_left
      · simp only [Act.put, List.setIfInBounds_toArray, List.set_cons_zero, List.set_cons_succ, i64_w, i32_w]
        rfl
      refine one_ (i := 10) (N := some 20) #[true, true, true, true, true, true, true, true, true, true, true, false, false] rfl rfl (by kernel_rfl) (by decide) (fun K hK => ?_)
      refine value_ (w1 := ?_) (v := ?_) (by rfl) rfl ?_ ?_
      rotate_left 2
      · go_simp
        constructor
        all_goals rfl
      have hB2 : Below wd20.heap.size wd20 (wx1.alloc (.cells #[.slice none 0 0, .int .i64 0, .int .i64 0, .slice none 0 0, .bool false, .int .i64 0] 61)) := al hB1 _
      have hZ := EBlk.new wx1 61 (.slice none 0 0) (.slice none 0 0) 0 0 0 false
      have htle : wd20.heap.size ≤ wx1.heap.size := hB1.size
      replace hO := Kd.V_mono (Kd.V_alloc (Kd.V_bound hO) (.cells #[.slice none 0 0, .int .i64 0, .int .i64 0, .slice none 0 0, .bool false, .int .i64 0] 61)) (fun k hk => show k ≠ wx1.heap.size by have := hk.2; omega)
      replace hI := Kd.V_mono (Kd.V_alloc (Kd.V_bound hI) (.cells #[.slice none 0 0, .int .i64 0, .int .i64 0, .slice none 0 0, .bool false, .int .i64 0] 61)) (fun k hk => show k ≠ wx1.heap.size by have := hk.2; omega)
      generalize wx1.alloc (.cells #[.slice none 0 0, .int .i64 0, .int .i64 0, .slice none 0 0, .bool false, .int .i64 0] 61) = wx2 at hB2 hZ hO hI ⊢
      refine hK.out _ _ ⟨(H9.out.below hB2).blk.c0, (H9.out.below hB2).blk.c1, (H9.out.below hB2).blk.c2, (H9.out.below hB2).blk.c3, (H9.out.below hB2).blk.c4, (H9.out.below hB2).blk.c5, (S3.out.below hB2).c2⟩ (fun hHeld => ?_)
      clear hK K
      refine norm_ (a' := ?_) ?_ ?_
      rotate_left
      · show Act.put _ (some 20) _ = _
        simp only [Act.put, List.setIfInBounds_toArray, List.set_cons_zero, List.set_cons_succ, i64_w, i32_w]
        rfl
      exact norm_ (by simp only [putAll, Act.put, List.setIfInBounds_toArray, List.set_cons_zero, List.set_cons_succ] <;> rfl) (hCont (wx1.heap.size, A20, c20, D20, d20) _ ⟨hB2, htle, hZ, hO, hI⟩)
    · skip
      refine value_ (w1 := ?_) (v := ?_) (by rfl) rfl ?_ ?_
      rotate_left 2
      · go_simp
        constructor
        all_goals rfl
      have hB1 : Below wd20.heap.size wd20 (wd20.alloc (.cells #[.slice none 0 0, .int .i64 0, .int .i64 0, .slice none 0 0, .bool false, .int .i64 0] 61)) := below_one _ _
      have hZ := EBlk.new wd20 61 (.slice none 0 0) (.slice none 0 0) 0 0 0 false
      have htle : wd20.heap.size ≤ wd20.heap.size := Nat.le_refl _
      generalize wd20.alloc (.cells #[.slice none 0 0, .int .i64 0, .int .i64 0, .slice none 0 0, .bool false, .int .i64 0] 61) = wx1 at hB1 hZ ⊢
      refine hK.out _ _ ⟨(H9.out.below hB1).blk.c0, (H9.out.below hB1).blk.c1, (H9.out.below hB1).blk.c2, (H9.out.below hB1).blk.c3, (H9.out.below hB1).blk.c4, (H9.out.below hB1).blk.c5, (S3.out.below hB1).c2⟩ (fun hHeld => ?_)
      clear hK K
      refine norm_ (a' := ?_) ?_ ?_
      rotate_left
      · show Act.put _ (some 20) _ = _
        simp only [Act.put, List.setIfInBounds_toArray, List.set_cons_zero, List.set_cons_succ, i64_w, i32_w]
        rfl
      refine one_ (i := 6) (N := some 120) #[true, true, true, true, true, true, true, false, false, false, true, false, false] rfl rfl (by kernel_rfl) (by decide) (fun K hK => ?_)
      refine goes_ Try.func46 (by kernel_rfl) rfl #[.agg #[.slice A9 0 c9, .int .i64 (0), .int .i64 (1), .slice D9 1 d9, .bool true, .int .i64 (-1)], .agg #[.int .i64 2, .bool false, .slice AB3 1 cB3], .int .i64 7] (by rfl) rfl rfl (by simp only [List.map_toArray, List.map_cons, List.map_nil]; rfl) ?_
      with_reducible refine ((show Calls Try.prog 46 #[.agg #[.slice A9 0 c9, .int .i64 (0), .int .i64 (1), .slice D9 1 d9, .bool true, .int .i64 (-1)], .agg #[.int .i64 2, .bool false, .slice AB3 1 cB3], .int .i64 7] wx1 (Off2 ⟨[], 0, 0, [], false, 0⟩ 300 _) from recv_lit (c := ⟨[], 0, 1, [rec9], true, -1⟩) (b := ⟨2, false, [rec9]⟩) sn9 wx1 rfl rfl rfl (H9.out.below hB1).o (H9.out.below hB1).i (by decide) (S3.out.below hB1).r)).mono ?_
      rintro e wx2 ⟨v, rfl, ⟨vo, vi, rfl, hO, hI⟩, hb⟩
      refine ⟨_, rfl, ?_⟩
      obtain ⟨A20, c20, rfl⟩ := Kd.V_slice hO
      obtain ⟨D20, d20, rfl⟩ := Kd.V_slice hI
      replace hO : Kd.V kL 28 wx2 0 (fun k => wx1.heap.size ≤ k) (.slice A20 0 c20) [] := hO
      replace hI : Kd.V k39 39 wx2 0 (fun k => wx1.heap.size ≤ k) (.slice D20 0 d20) [] := hI
      replace hO := Kd.V_mono hO (ok' := fun k => k ≠ wd20.heap.size) (fun k hk => show k ≠ wd20.heap.size by have := heap_lt hZ; omega)
      replace hI := Kd.V_mono hI (ok' := fun k => k ≠ wd20.heap.size) (fun k hk => show k ≠ wd20.heap.size by have := heap_lt hZ; omega)
      replace hZ := hZ.below hb
      have hB2 : Below wd20.heap.size wd20 wx2 := bb hB1 hb
      clear hb
      refine hK.out _ _ ⟨(H9.out.below hB2).blk.c0, (H9.out.below hB2).blk.c1, (H9.out.below hB2).blk.c2, (H9.out.below hB2).blk.c3, (H9.out.below hB2).blk.c4, (H9.out.below hB2).blk.c5, (S3.out.below hB2).c2⟩ (fun hHeld => ?_)
      clear hK K
      refine norm_ (a' := ?_) ?_ ?_
      rotate_left
      · show Act.put _ (some 120) _ = _
        simp only [Act.put, List.setIfInBounds_toArray, List.set_cons_zero, List.set_cons_succ, i64_w, i32_w]
        rfl
      refine pure_ (i := 7) (N := some 113) (v := ?_) (a' := ?_) #[true, true, true, true, true, true, true, true, false, false, true, false, false] rfl rfl (by kernel_rfl) (fun _ _ _ h => h) (Or.inl ⟨by rfl, ?_⟩) ?_ ?_
      rotate_left
      · intro w'
        go_simp
        with_reducible rfl
      rotate_left
      · simp only [Act.put, List.setIfInBounds_toArray, List.set_cons_zero, List.set_cons_succ, i64_w, i32_w]
        rfl
      refine pure_ (i := 8) (N := some 121) (v := ?_) (a' := ?_) #[true, true, true, true, true, true, true, true, true, false, true, false, false] rfl rfl (by kernel_rfl) (fun _ _ _ h => h) (Or.inl ⟨by rfl, ?_⟩) ?_ ?_
      rotate_left
      · intro w'
        go_simp
        with_reducible rfl
      rotate_left
      · simp only [Act.put, List.setIfInBounds_toArray, List.set_cons_zero, List.set_cons_succ, i64_w, i32_w]
        rfl
      refine pure_ (i := 9) (N := some 122) (v := ?_) (a' := ?_) #[true, true, true, true, true, true, true, true, true, true, true, false, false] rfl rfl (by kernel_rfl) (fun _ _ _ h => h) (Or.inl ⟨by rfl, ?_⟩) ?_ ?_
      rotate_left
      · intro w'
        go_simp
        with_reducible rfl
      rotate_left
      · simp only [Act.put, List.setIfInBounds_toArray, List.set_cons_zero, List.set_cons_succ, i64_w, i32_w]
        rfl
      exact norm_ (by simp only [putAll, Act.put, List.setIfInBounds_toArray, List.set_cons_zero, List.set_cons_succ] <;> rfl) (hCont (wd20.heap.size, A20, c20, D20, d20) _ ⟨hB2, htle, hZ, hO, hI⟩)
  rintro ⟨t20, A20, c20, D20, d20⟩ w20 ⟨hB, htle, hZ, hO, hI⟩
  have hHeld : w20.cell? ⟨t9, 0, none⟩ = some (.slice A9 0 c9) ∧ w20.cell? ⟨t9, 1, none⟩ = some (.int .i64 (0)) ∧ w20.cell? ⟨t9, 2, none⟩ = some (.int .i64 (1)) ∧ w20.cell? ⟨t9, 3, none⟩ = some (.slice D9 1 d9) ∧ w20.cell? ⟨t9, 4, none⟩ = some (.bool true) ∧ w20.cell? ⟨t9, 5, none⟩ = some (.int .i64 (-1)) ∧ w20.cell? ⟨g3, 2, none⟩ = some (.slice AB3 1 cB3) := ⟨(H9.out.below hB).blk.c0, (H9.out.below hB).blk.c1, (H9.out.below hB).blk.c2, (H9.out.below hB).blk.c3, (H9.out.below hB).blk.c4, (H9.out.below hB).blk.c5, (S3.out.below hB).c2⟩
  refine norm_ (a' := ?_) ?_ ?_
  rotate_left
  · simp only [putAll, Act.put, List.setIfInBounds_toArray, List.set_cons_zero, List.set_cons_succ]
    rfl
  refine last_ (i := 11) (N := none) #[true, true, true, true, true, true, true, true, true, true, true, true, false] rfl rfl (by kernel_rfl) (by decide) (fun K hK => ?_)
  have z0 := hZ.c0; have z1 := hZ.c1; have z2 := hZ.c2; have z3 := hZ.c3; have z4 := hZ.c4; have z5 := hZ.c5; have y := blk_frozen hZ
  refine skip_ (w1 := ?_) (by rfl) rfl ?_ ?_
  rotate_left
  · go_simp
    rfl
  obtain ⟨w920, hw9, Z9, F9⟩ := six hZ (.slice A20 0 c20) (0) (0) (.slice D20 0 d20) false (0)
  rw [← hw9]
  clear hw9 z0 z1 z2 z3 z4 z5 y
  refine hK.out _ _ ?_
  clear hK K
  refine pure_ (i := 12) (N := some 21) (v := ?_) (a' := ?_) #[true, true, true, true, true, true, true, true, true, true, true, true, true] rfl rfl (by kernel_rfl) (fun _ _ _ h => h) (Or.inl ⟨by rfl, ?_⟩) ?_ ?_
  rotate_left
  · intro w'
    go_simp
    with_reducible rfl
  rotate_left
  · simp only [Act.put, List.setIfInBounds_toArray, List.set_cons_zero, List.set_cons_succ, i64_w, i32_w]
    rfl
  refine done_ (by kernel_rfl) ?_

  have hB9 : Below wd20.heap.size wd20 w920 := Fr.below F9 hB (Nat.le_refl _) (fun k hk => by omega)
  have H20 := Lib.hid (show HE w920 t20 A20 0 c20 D20 0 d20 ⟨[], 0, 0, [], false, 0⟩ from ⟨Z9, (Kd.V_reads' (Kd.V_step hO (fun k hk hlt => F9.same k hlt hk))).2.2, (Kd.V_reads' (Kd.V_step hI (fun k hk hlt => F9.same k hlt hk))).2.2⟩)
  replace H1 := Lib.hid (H1.out.below hB9)
  replace H3 := Lib.hid (H3.out.below hB9)
  replace H4 := Lib.hid (H4.out.below hB9)
  replace H9 := Lib.hid (H9.out.below hB9)
  replace H11 := Lib.hid (H11.out.below hB9)
  replace H13 := Lib.hid (H13.out.below hB9)
  replace H16 := Lib.hid (H16.out.below hB9)
  replace H18 := Lib.hid (H18.out.below hB9)
  replace S3 := Lib.hid (S3.out.below hB9)
  replace S13 := Lib.hid (S13.out.below hB9)
  replace B := Lib.hid (bb B.out hB9)
  clear hB9 hB htle hZ hO hI Z9 F9 hHeld
  have h110 := H11.out.blk.c0; have h111 := H11.out.blk.c1; have h112 := H11.out.blk.c2; have h113 := H11.out.blk.c3; have h114 := H11.out.blk.c4; have h115 := H11.out.blk.c5
  have h160 := H16.out.blk.c0; have h161 := H16.out.blk.c1; have h162 := H16.out.blk.c2; have h163 := H16.out.blk.c3; have h164 := H16.out.blk.c4; have h165 := H16.out.blk.c5
  obtain ⟨ad, hA, r0, _, _, _, _, _, _, r7⟩ := at_T39 H11.out.i 0 (by omega) (by omega)
  subst hA
  rw [show rd_T39 [rec9] 0 = rec9 from rfl] at r0 r7
  replace r0 : w920.cell? ad = some (.int .i64 9) := by have h := r0; simpa [Addr.add, rec9] using h
  replace r7 : w920.cell? ⟨ad.block, ad.off + 7, none⟩ = some (.int .i64 4) := by have h := r7; simpa [Addr.add, rec9] using h
  have s30 := S3.out.c0; have s31 := S3.out.c1; have s130 := S13.out.c0; have s131 := S13.out.c1
  go_wp2_with fail
  refine (clCheck_calls A16 c16 [] 1 0 (.slice D16 0 d16) false (-1) _ H16.out.o).mono ?_
  rw [show clCheck [] 1 0 (-1) = 0 from rfl]
  rintro e w22 ⟨rfl, hb⟩
  replace B := Lib.hid (bb B.out hb)
  clear hb
  go_wp2_with fail
  go_ret
  exact ⟨rfl, B.out⟩
def crossbarlaw30_sane.f : Option (Bool) := some true
end Go.Proofs.Ytbfhohpbldadbaa.P

-- Written by a program of this session out of the translation (a changed scratch copy of the print). Not trusted: Lean checks it.
namespace Go.Proofs.Ytbfhohpbldadbaa.P
open Go.RowKit Go.Proofs.YtbfhohpbldadbaaW.PrintWords Go.Proofs.YtbfhohpbldadbaaW.PrintLast Go.Proofs.YtbfhohpbldadbaaW.PrintMore
attribute [local go_sem] max2_int min2_int max_two min_two max_three min_three max_four min_four   -- for this text's walks alone
set_option linter.unusedVariables false
set_option linter.unusedSimpArgs false

theorem eqA39 (d : Nat) (w : World) (x0 y0 : Int) (x1 y1 : Int) (x2 y2 : Int) (x3 y3 : ByteArray) (x4 y4 : Int) (x5 y5 : Int) (x6 y6 : Int) (x7 y7 : Int) :
    (Op.equalIn (d + 2) 39 (.agg #[.int .i64 x0, .int .i64 x1, .int .i64 x2, .string x3, .int .i64 x4, .int .i64 x5, .int .i64 x6, .int .i64 x7]) (.agg #[.int .i64 y0, .int .i64 y1, .int .i64 y2, .string y3, .int .i64 y4, .int .i64 y5, .int .i64 y6, .int .i64 y7])).run Try.prog w = .ok (x0 == y0 && (x1 == y1 && (x2 == y2 && (x3.toList == y3.toList && (x4 == y4 && (x5 == y5 && (x6 == y6 && (x7 == y7)))))))) w := by
  refine eqA_of Try.underlying39 (by kernel_rfl) ?_
  refine eqf_cons (by rfl) (by go_simp; rfl) (by go_simp; rfl) (by go_simp) ?_
  refine eqf_cons (by rfl) (by go_simp; rfl) (by go_simp; rfl) (by go_simp) ?_
  refine eqf_cons (by rfl) (by go_simp; rfl) (by go_simp; rfl) (by go_simp) ?_
  refine eqf_cons (by rfl) (by go_simp; rfl) (by go_simp; rfl) (by go_simp) ?_
  refine eqf_cons (by rfl) (by go_simp; rfl) (by go_simp; rfl) (by go_simp) ?_
  refine eqf_cons (by rfl) (by go_simp; rfl) (by go_simp; rfl) (by go_simp) ?_
  refine eqf_cons (by rfl) (by go_simp; rfl) (by go_simp; rfl) (by go_simp) ?_
  exact eqf_last (by rfl) (by go_simp; rfl) (by go_simp; rfl) (by go_simp)
end Go.Proofs.Ytbfhohpbldadbaa.P

-- Written by a program of this session out of the translation (a changed scratch copy of the print). Not trusted: Lean checks it.
namespace Go.Proofs.Ytbfhohpbldadbaa.P
open Go.RowKit Go.Proofs.YtbfhohpbldadbaaW.PrintWords Go.Proofs.YtbfhohpbldadbaaW.PrintLast Go.Proofs.YtbfhohpbldadbaaW.PrintMore
attribute [local go_sem] max2_int min2_int max_two min_two max_three min_three max_four min_four   -- for this text's walks alone
set_option linter.unusedVariables false
set_option linter.unusedSimpArgs false

attribute [local go_sem high] eqA39
-- GIVEN: function 33 (crossbarlaw30_sane): Derived.Test.YtbfhohpbldadbaaExtS

/-! ### clearing_New: function 69 -/
def clearing_New.f  : Option ((List (List (S39))) × Int × Int × (List (S39)) × Bool × Int) := some (([] : List (List (S39))), 0, 0, ([] : List (S39)), false, (-1))
-- NOT PRINTED: function 34 (crossbarlaw30_start)

-- GIVEN: function 35 (clearing_Offer): Derived.Test.YtbfhohpbldadbaaExt

-- GIVEN: function 44 (clearing_Poll): Derived.Test.YtbfhohpbldadbaaExt

-- NOT PRINTED: function 36 (crossbarlaw30_channel_poll)

-- GIVEN: function 46 (clearing_Receive): Derived.Test.YtbfhohpbldadbaaExt

-- NOT PRINTED: function 37 (crossbarlaw30_channel_deliver)

-- NOT PRINTED: function 11 (crossbarlaw30_ClearingPreservesTotals)

-- NOT PRINTED: function 41 (crossbarlaw30_channel_lose)

-- NOT PRINTED: function 38 (crossbarlaw30_channel_step)

-- GIVEN: function 39 (clearing_Check): Derived.Test.YtbfhohpbldadbaaExt

/-! ### crossbarref30_SameRecords: function 42 -/
def crossbarref30_SameRecords.l0 : Nat → List (S39) → List (S39) → Int → Option (Bool)
  | 0, _, _, _ => none
  | k + 1, x0, x1, x5 => if x5 < (x0.length : Int) then (if 0 ≤ x5 then (if x5 < (x1.length : Int) then (if (!(((rd_T39 x0 x5).f0) == ((rd_T39 x1 x5).f0)) || (!(((rd_T39 x0 x5).f1) == ((rd_T39 x1 x5).f1)) || (!(((rd_T39 x0 x5).f2) == ((rd_T39 x1 x5).f2)) || (!((((rd_T39 x0 x5).f3).toList) == (((rd_T39 x1 x5).f3).toList)) || (!(((rd_T39 x0 x5).f4) == ((rd_T39 x1 x5).f4)) || (!(((rd_T39 x0 x5).f5) == ((rd_T39 x1 x5).f5)) || (!(((rd_T39 x0 x5).f6) == ((rd_T39 x1 x5).f6)) || (!(((rd_T39 x0 x5).f7) == ((rd_T39 x1 x5).f7)))))))))) = true then (some false) else (crossbarref30_SameRecords.l0 k x0 x1 (wrap64 (x5 + 1)))) else (none)) else (none)) else (some true)
def crossbarref30_SameRecords.f (k : Nat) (l0 : List (S39)) (l1 : List (S39)) : Option (Bool) := if (l0.length : Int) = (l1.length : Int) then (crossbarref30_SameRecords.l0 k l0 l1 0) else (some false)
theorem crossbarref30_SameRecords.mono_l : ∀ k, (∀ y0 y1 y2, LeO (crossbarref30_SameRecords.l0 k y0 y1 y2) (crossbarref30_SameRecords.l0 (k + 1) y0 y1 y2))
  | 0 => fun _ _ _ r h => by simp [crossbarref30_SameRecords.l0] at h
  | k + 1 => by
    have ih0 := crossbarref30_SameRecords.mono_l k
    · intro y0 y1 y2
      unfold crossbarref30_SameRecords.l0
      repeat' first
      | (with_reducible exact ih0 _ _ _)
      | (with_reducible exact LeO.refl _)
      | (with_reducible exact LeO.none _)
      | (with_reducible refine LeO.ite ?_ ?_)
      | (with_reducible refine LeO.bind ?_ (fun _ => ?_))
      | exact ih0 _ _ _
      | exact LeO.none _
      | refine LeO.ite ?_ ?_
      | refine LeO.bind ?_ (fun _ => ?_)
theorem crossbarref30_SameRecords.mono : ∀ a0 a1 k, LeO (crossbarref30_SameRecords.f k a0 a1) (crossbarref30_SameRecords.f (k + 1) a0 a1) := by
  intro a0 a1 k
  have ih0 := crossbarref30_SameRecords.mono_l k
  unfold crossbarref30_SameRecords.f
  repeat' first
      | (with_reducible exact ih0 _ _ _)
      | (with_reducible exact LeO.refl _)
      | (with_reducible exact LeO.none _)
      | (with_reducible refine LeO.ite ?_ ?_)
      | (with_reducible refine LeO.bind ?_ (fun _ => ?_))
      | exact ih0 _ _ _
      | exact LeO.none _
      | refine LeO.ite ?_ ?_
      | refine LeO.bind ?_ (fun _ => ?_)
set_option maxHeartbeats 8000000 in
set_option maxRecDepth 100000 in
theorem crossbarref30_SameRecords.calls (k : Nat) (A0 : Option Addr) (c0 : Nat) (l0 : List (S39)) (A1 : Option Addr) (c1 : Nat) (l1 : List (S39)) (r : Bool) (w : World) (hr0 : Kd.C k39 w A0 l0.length l0) (hc0 : l0.length ≤ c0) (hr1 : Kd.C k39 w A1 l1.length l1) (hc1 : l1.length ≤ c1) (h : crossbarref30_SameRecords.f k l0 l1 = some r) :
    Calls Try.prog 42 #[.slice A0 l0.length c0, .slice A1 l1.length c1] w fun e w' => e = .returned (.bool r) ∧ Drawn0 w w' := by
  have hu39 := Try.underlying39
  have HR0 := Aside0.mk hr0
  have HC0 := Aside0.mk hc0
  clear hr0 hc0
  have HR1 := Aside0.mk hr1
  have HC1 := Aside0.mk hc1
  clear hr1 hc1
  have H : (if (l0.length : Int) = (l1.length : Int) then (crossbarref30_SameRecords.l0 k l0 l1 0) else (some false)) = some r := h
  clear h
  by_cases c3 : (l0.length : Int) = (l1.length : Int)
  · rw [if_pos c3] at H
    have c3b0 : ((l0.length : Int) == (l1.length : Int)) = true := beq_iff_eq.mpr c3
    have c3b1 : ((l0.length : Int) != (l1.length : Int)) = false := bne_eq_false_iff_eq.mpr c3
    have c3b2 : (l0.length == l1.length) = true := by first | simpa using c3 | (simp at c3 ⊢; omega)
    clear c3
    have H' := Aside0.mk H
    clear H
    go_enter Try.func42, Try.ntmps42
    go_wp2
    repeat (go_quiet (fail); try go_wp2)
    go_loopg [5] k (fun kq v5 w' => ∃ (x5_1 : Int), v5 = .int .i64 x5_1 ∧ Aside0 (crossbarref30_SameRecords.l0 kq l0 l1 x5_1 = some r) ∧ Aside0 (kq ≤ k) ∧ Drawn0 w w')
    case atStart => exact ⟨(0), (by first | rfl | (simp; done) | (simp [*]; done)), H', ⟨Nat.le_refl _⟩, by repeat (first | exact Drawn0.refl _ | apply Drawn0.step)⟩
    case round =>
      clear H'
      try clear c1
      try clear p2
      try clear c3
      try clear c3b0
      try clear c3b1
      try clear c3b2
      obtain ⟨x5_1, rfl, HA, HK1, ⟨m1, rfl⟩⟩ := hrel
      cases gk with
      | zero => exact absurd HA.out (by simp [crossbarref30_SameRecords.l0])
      | succ k1 =>
        have H := HA.out
        clear HA
        simp only [crossbarref30_SameRecords.l0] at H
        by_cases c4 : x5_1 < (l0.length : Int)
        · rw [if_pos c4] at H
          have c4b0 : decide (x5_1 < (l0.length : Int)) = true := decide_eq_true c4
          clear c4
          by_cases c5 : 0 ≤ x5_1
          · rw [if_pos c5] at H
            have c5b0 : decide (0 ≤ x5_1) = true := decide_eq_true c5
            clear c5
            by_cases c6 : x5_1 < (l1.length : Int)
            · rw [if_pos c6] at H
              have c6b0 : decide (x5_1 < (l1.length : Int)) = true := decide_eq_true c6
              clear c6
              by_cases c7 : (!(((rd_T39 l0 x5_1).f0) == ((rd_T39 l1 x5_1).f0)) || (!(((rd_T39 l0 x5_1).f1) == ((rd_T39 l1 x5_1).f1)) || (!(((rd_T39 l0 x5_1).f2) == ((rd_T39 l1 x5_1).f2)) || (!((((rd_T39 l0 x5_1).f3).toList) == (((rd_T39 l1 x5_1).f3).toList)) || (!(((rd_T39 l0 x5_1).f4) == ((rd_T39 l1 x5_1).f4)) || (!(((rd_T39 l0 x5_1).f5) == ((rd_T39 l1 x5_1).f5)) || (!(((rd_T39 l0 x5_1).f6) == ((rd_T39 l1 x5_1).f6)) || (!(((rd_T39 l0 x5_1).f7) == ((rd_T39 l1 x5_1).f7)))))))))) = true
              · rw [if_pos c7] at H
                have c7b0 : (!(((rd_T39 l0 x5_1).f0) == ((rd_T39 l1 x5_1).f0)) || (!(((rd_T39 l0 x5_1).f1) == ((rd_T39 l1 x5_1).f1)) || (!(((rd_T39 l0 x5_1).f2) == ((rd_T39 l1 x5_1).f2)) || (!((((rd_T39 l0 x5_1).f3).toList) == (((rd_T39 l1 x5_1).f3).toList)) || (!(((rd_T39 l0 x5_1).f4) == ((rd_T39 l1 x5_1).f4)) || (!(((rd_T39 l0 x5_1).f5) == ((rd_T39 l1 x5_1).f5)) || (!(((rd_T39 l0 x5_1).f6) == ((rd_T39 l1 x5_1).f6)) || (!(((rd_T39 l0 x5_1).f7) == ((rd_T39 l1 x5_1).f7)))))))))) = true := c7
                clear c7
                obtain rfl := Option.some.inj H
                have p533 : 0 ≤ (x5_1 : Int) := of_decide_eq_true (by first | (with_reducible assumption) | assumption)
                have q533 : x5_1 < (l0.length : Int) := of_decide_eq_true (by first | (with_reducible assumption) | assumption)
                obtain ⟨ad533, e533, hx533_0, hx533_1, hx533_2, hx533_3, hx533_4, hx533_5, hx533_6, hx533_7⟩ := at_T39 HR0.out x5_1 p533 q533
                cases e533
                replace p533 := eq_true p533
                replace q533 := eq_true q533
                have p534 : 0 ≤ (x5_1 : Int) := of_decide_eq_true (by first | (with_reducible assumption) | assumption)
                have q534 : x5_1 < (l1.length : Int) := of_decide_eq_true (by first | (with_reducible assumption) | assumption)
                obtain ⟨ad534, e534, hx534_0, hx534_1, hx534_2, hx534_3, hx534_4, hx534_5, hx534_6, hx534_7⟩ := at_T39 HR1.out x5_1 p534 q534
                cases e534
                replace p534 := eq_true p534
                replace q534 := eq_true q534
                go_wp2
                repeat (go_quiet (fail); try go_wp2)
                go_ret
                exact ⟨by first | rfl | (simp; done) | (simp [*]; done), by repeat (first | exact Drawn0.refl _ | apply Drawn0.step)⟩
              · rw [if_neg c7] at H
                have c7b0 : (!(((rd_T39 l0 x5_1).f0) == ((rd_T39 l1 x5_1).f0)) || (!(((rd_T39 l0 x5_1).f1) == ((rd_T39 l1 x5_1).f1)) || (!(((rd_T39 l0 x5_1).f2) == ((rd_T39 l1 x5_1).f2)) || (!((((rd_T39 l0 x5_1).f3).toList) == (((rd_T39 l1 x5_1).f3).toList)) || (!(((rd_T39 l0 x5_1).f4) == ((rd_T39 l1 x5_1).f4)) || (!(((rd_T39 l0 x5_1).f5) == ((rd_T39 l1 x5_1).f5)) || (!(((rd_T39 l0 x5_1).f6) == ((rd_T39 l1 x5_1).f6)) || (!(((rd_T39 l0 x5_1).f7) == ((rd_T39 l1 x5_1).f7)))))))))) = false := by simpa using c7
                clear c7
                have H' := Aside0.mk H
                clear H
                have p533 : 0 ≤ (x5_1 : Int) := of_decide_eq_true (by first | (with_reducible assumption) | assumption)
                have q533 : x5_1 < (l0.length : Int) := of_decide_eq_true (by first | (with_reducible assumption) | assumption)
                obtain ⟨ad533, e533, hx533_0, hx533_1, hx533_2, hx533_3, hx533_4, hx533_5, hx533_6, hx533_7⟩ := at_T39 HR0.out x5_1 p533 q533
                cases e533
                replace p533 := eq_true p533
                replace q533 := eq_true q533
                have p534 : 0 ≤ (x5_1 : Int) := of_decide_eq_true (by first | (with_reducible assumption) | assumption)
                have q534 : x5_1 < (l1.length : Int) := of_decide_eq_true (by first | (with_reducible assumption) | assumption)
                obtain ⟨ad534, e534, hx534_0, hx534_1, hx534_2, hx534_3, hx534_4, hx534_5, hx534_6, hx534_7⟩ := at_T39 HR1.out x5_1 p534 q534
                cases e534
                replace p534 := eq_true p534
                replace q534 := eq_true q534
                go_wp2
                repeat (go_quiet (fail); try go_wp2)
                go_roundg k1
                case measure => have := HK1.out; omega
                case rel => exact ⟨(wrap64 (x5_1 + 1)), (by first | rfl | (simp; done) | (simp [*]; done)), H', ⟨by have := HK1.out; omega⟩, by repeat (first | exact Drawn0.refl _ | apply Drawn0.step)⟩
            · rw [if_neg c6] at H
              exact absurd H (by simp)
          · rw [if_neg c5] at H
            exact absurd H (by simp)
        · rw [if_neg c4] at H
          have c4b0 : decide (x5_1 < (l0.length : Int)) = false := decide_eq_false c4
          clear c4
          obtain rfl := Option.some.inj H
          go_wp2
          repeat (go_quiet (fail); try go_wp2)
          go_ret
          exact ⟨by first | rfl | (simp; done) | (simp [*]; done), by repeat (first | exact Drawn0.refl _ | apply Drawn0.step)⟩
  · rw [if_neg c3] at H
    have c3b0 : ((l0.length : Int) == (l1.length : Int)) = false := beq_eq_false_iff_ne.mpr c3
    have c3b1 : ((l0.length : Int) != (l1.length : Int)) = true := bne_iff_ne.mpr c3
    have c3b2 : (l0.length == l1.length) = false := by first | simpa using c3 | (simp at c3 ⊢; omega)
    obtain rfl := Option.some.inj H
    go_enter Try.func42, Try.ntmps42
    go_wp2
    repeat (go_quiet (fail); try go_wp2)
    go_ret
    exact ⟨by first | rfl | (simp; done) | (simp [*]; done), by repeat (first | exact Drawn0.refl _ | apply Drawn0.step)⟩

/-! ### crossbarlaw30_prefix: function 40 -/
def crossbarlaw30_prefix.f (k : Nat) (l0 : List (S39)) (l1 : List (S39)) : Option (Bool) := if (l0.length : Int) ≤ (l1.length : Int) then (if 0 ≤ (l0.length : Int) then ((crossbarref30_SameRecords.f k l0 (l1.take ((l0.length : Int) : Int).toNat)).bind fun t539 => (some t539)) else (none)) else (some false)
theorem crossbarlaw30_prefix.mono : ∀ a0 a1 k, LeO (crossbarlaw30_prefix.f k a0 a1) (crossbarlaw30_prefix.f (k + 1) a0 a1) := by
  intro a0 a1 k
  unfold crossbarlaw30_prefix.f
  repeat' first
      | (with_reducible exact crossbarref30_SameRecords.mono _ _ _)
      | (with_reducible exact LeO.refl _)
      | (with_reducible exact LeO.none _)
      | (with_reducible refine LeO.ite ?_ ?_)
      | (with_reducible refine LeO.bind ?_ (fun _ => ?_))
      | exact crossbarref30_SameRecords.mono _ _ _
      | exact LeO.none _
      | refine LeO.ite ?_ ?_
      | refine LeO.bind ?_ (fun _ => ?_)
-- NOT PRINTED: function 12 (crossbarlaw30_ClearingDeliversExactlyOnce)

-- NOT PRINTED: function 13 (crossbarlaw30_ClearingDeliversAll)

/-! ### crossbarref30_Few: function 43 -/
def crossbarref30_Few.l0 : Nat → Int → Int → List (List (S39)) → Int → Int → List (S39) → Bool → Int → Option (Bool)
  | 0, _, _, _, _, _, _, _, _ => none
  | k + 1, x3, x4, x543000, x543001, x543002, x543003, x543004, x543005 => if x4 < (x543000.length : Int) then (if x4 < 80 then (if 0 ≤ x4 then (crossbarref30_Few.l0 k (wrap64 (x3 + ((rd_L7 x543000 x4).length : Int))) (wrap64 (x4 + 1)) x543000 x543001 x543002 x543003 x543004 x543005) else (none)) else (if (x543000.length : Int) ≤ 80 then (some (decide (x3 ≤ 4000))) else (some false))) else (if (x543000.length : Int) ≤ 80 then (some (decide (x3 ≤ 4000))) else (some false))
def crossbarref30_Few.f (k : Nat) (l0_0 : List (List (S39))) (a0_1 : Int) (a0_2 : Int) (l0_3 : List (S39)) (a0_4 : Bool) (a0_5 : Int) : Option (Bool) := crossbarref30_Few.l0 k (l0_3.length : Int) 0 l0_0 a0_1 a0_2 l0_3 a0_4 a0_5
theorem crossbarref30_Few.mono_l : ∀ k, (∀ y0 y1 y2 y3 y4 y5 y6 y7, LeO (crossbarref30_Few.l0 k y0 y1 y2 y3 y4 y5 y6 y7) (crossbarref30_Few.l0 (k + 1) y0 y1 y2 y3 y4 y5 y6 y7))
  | 0 => fun _ _ _ _ _ _ _ _ r h => by simp [crossbarref30_Few.l0] at h
  | k + 1 => by
    have ih0 := crossbarref30_Few.mono_l k
    · intro y0 y1 y2 y3 y4 y5 y6 y7
      unfold crossbarref30_Few.l0
      repeat' first
      | (with_reducible exact ih0 _ _ _ _ _ _ _ _)
      | (with_reducible exact LeO.refl _)
      | (with_reducible exact LeO.none _)
      | (with_reducible refine LeO.ite ?_ ?_)
      | (with_reducible refine LeO.bind ?_ (fun _ => ?_))
      | exact ih0 _ _ _ _ _ _ _ _
      | exact LeO.none _
      | refine LeO.ite ?_ ?_
      | refine LeO.bind ?_ (fun _ => ?_)
theorem crossbarref30_Few.mono : ∀ a0 a1 a2 a3 a4 a5 k, LeO (crossbarref30_Few.f k a0 a1 a2 a3 a4 a5) (crossbarref30_Few.f (k + 1) a0 a1 a2 a3 a4 a5) := by
  intro a0 a1 a2 a3 a4 a5 k
  have ih0 := crossbarref30_Few.mono_l k
  unfold crossbarref30_Few.f
  repeat' first
      | (with_reducible exact ih0 _ _ _ _ _ _ _ _)
      | (with_reducible exact LeO.refl _)
      | (with_reducible exact LeO.none _)
      | (with_reducible refine LeO.ite ?_ ?_)
      | (with_reducible refine LeO.bind ?_ (fun _ => ?_))
      | exact ih0 _ _ _ _ _ _ _ _
      | exact LeO.none _
      | refine LeO.ite ?_ ?_
      | refine LeO.bind ?_ (fun _ => ?_)
end Go.Proofs.Ytbfhohpbldadbaa.P

-- Written by a program of this session out of the translation (a changed scratch copy of the print). Not trusted: Lean checks it.
namespace Go.Proofs.Ytbfhohpbldadbaa.P
open Go.RowKit Go.Proofs.YtbfhohpbldadbaaW.PrintWords Go.Proofs.YtbfhohpbldadbaaW.PrintLast Go.Proofs.YtbfhohpbldadbaaW.PrintMore
attribute [local go_sem] max2_int min2_int max_two min_two max_three min_three max_four min_four   -- for this text's walks alone
set_option linter.unusedVariables false
set_option linter.unusedSimpArgs false

/-! ### crossbarref30_Same: function 45 -/
mutual
def crossbarref30_Same.j0 : Nat → Bool → List (List (S39)) → Int → Int → List (S39) → Bool → Int → List (List (S39)) → Int → Int → List (S39) → Bool → Int → Option (Bool)
  | 0, _, _, _, _, _, _, _, _, _, _, _, _, _ => none
  | k + 1, x48, x545000, x545001, x545002, x545003, x545004, x545005, x546000, x546001, x546002, x546003, x546004, x546005 => if x48 = true then (some false) else (crossbarref30_Same.l0 k 0 x545000 x545001 x545002 x545003 x545004 x545005 x546000 x546001 x546002 x546003 x546004 x546005)
def crossbarref30_Same.l0 : Nat → Int → List (List (S39)) → Int → Int → List (S39) → Bool → Int → List (List (S39)) → Int → Int → List (S39) → Bool → Int → Option (Bool)
  | 0, _, _, _, _, _, _, _, _, _, _, _, _, _ => none
  | k + 1, x5, x545000, x545001, x545002, x545003, x545004, x545005, x546000, x546001, x546002, x546003, x546004, x546005 => if x5 < (x545000.length : Int) then (if 0 ≤ x5 then (if x5 < (x546000.length : Int) then ((crossbarref30_SameRecords.f k (rd_L7 x545000 x5) (rd_L7 x546000 x5)).bind fun t549 => (if t549 = true then (crossbarref30_Same.l0 k (wrap64 (x5 + 1)) x545000 x545001 x545002 x545003 x545004 x545005 x546000 x546001 x546002 x546003 x546004 x546005) else (some false))) else (none)) else (none)) else (some true)
end
def crossbarref30_Same.f (k : Nat) (l0_0 : List (List (S39))) (a0_1 : Int) (a0_2 : Int) (l0_3 : List (S39)) (a0_4 : Bool) (a0_5 : Int) (l1_0 : List (List (S39))) (a1_1 : Int) (a1_2 : Int) (l1_3 : List (S39)) (a1_4 : Bool) (a1_5 : Int) : Option (Bool) := if (l0_0.length : Int) = (l1_0.length : Int) then (if a0_1 = a1_1 then (if a0_2 = a1_2 then (if (a0_4 != a1_4) = true then (crossbarref30_Same.j0 k true l0_0 a0_1 a0_2 l0_3 a0_4 a0_5 l1_0 a1_1 a1_2 l1_3 a1_4 a1_5) else (if a0_5 = a1_5 then ((crossbarref30_SameRecords.f k l0_3 l1_3).bind fun t546 => (crossbarref30_Same.j0 k (!t546) l0_0 a0_1 a0_2 l0_3 a0_4 a0_5 l1_0 a1_1 a1_2 l1_3 a1_4 a1_5)) else (crossbarref30_Same.j0 k true l0_0 a0_1 a0_2 l0_3 a0_4 a0_5 l1_0 a1_1 a1_2 l1_3 a1_4 a1_5))) else (crossbarref30_Same.j0 k true l0_0 a0_1 a0_2 l0_3 a0_4 a0_5 l1_0 a1_1 a1_2 l1_3 a1_4 a1_5)) else (crossbarref30_Same.j0 k true l0_0 a0_1 a0_2 l0_3 a0_4 a0_5 l1_0 a1_1 a1_2 l1_3 a1_4 a1_5)) else (crossbarref30_Same.j0 k true l0_0 a0_1 a0_2 l0_3 a0_4 a0_5 l1_0 a1_1 a1_2 l1_3 a1_4 a1_5)
theorem crossbarref30_Same.mono_l : ∀ k, (∀ y0 y1 y2 y3 y4 y5 y6 y7 y8 y9 y10 y11 y12, LeO (crossbarref30_Same.j0 k y0 y1 y2 y3 y4 y5 y6 y7 y8 y9 y10 y11 y12) (crossbarref30_Same.j0 (k + 1) y0 y1 y2 y3 y4 y5 y6 y7 y8 y9 y10 y11 y12)) ∧ (∀ y0 y1 y2 y3 y4 y5 y6 y7 y8 y9 y10 y11 y12, LeO (crossbarref30_Same.l0 k y0 y1 y2 y3 y4 y5 y6 y7 y8 y9 y10 y11 y12) (crossbarref30_Same.l0 (k + 1) y0 y1 y2 y3 y4 y5 y6 y7 y8 y9 y10 y11 y12))
  | 0 => ⟨fun _ _ _ _ _ _ _ _ _ _ _ _ _ r h => by simp [crossbarref30_Same.j0] at h, fun _ _ _ _ _ _ _ _ _ _ _ _ _ r h => by simp [crossbarref30_Same.l0] at h⟩
  | k + 1 => by
    obtain ⟨ih0, ih1⟩ := crossbarref30_Same.mono_l k
    refine ⟨?_, ?_⟩
    · intro y0 y1 y2 y3 y4 y5 y6 y7 y8 y9 y10 y11 y12
      unfold crossbarref30_Same.j0
      repeat' first
      | (with_reducible exact ih0 _ _ _ _ _ _ _ _ _ _ _ _ _)
      | (with_reducible exact ih1 _ _ _ _ _ _ _ _ _ _ _ _ _)
      | (with_reducible exact crossbarref30_SameRecords.mono _ _ _)
      | (with_reducible exact LeO.refl _)
      | (with_reducible exact LeO.none _)
      | (with_reducible refine LeO.ite ?_ ?_)
      | (with_reducible refine LeO.bind ?_ (fun _ => ?_))
      | exact ih0 _ _ _ _ _ _ _ _ _ _ _ _ _
      | exact ih1 _ _ _ _ _ _ _ _ _ _ _ _ _
      | exact crossbarref30_SameRecords.mono _ _ _
      | exact LeO.none _
      | refine LeO.ite ?_ ?_
      | refine LeO.bind ?_ (fun _ => ?_)
    · intro y0 y1 y2 y3 y4 y5 y6 y7 y8 y9 y10 y11 y12
      unfold crossbarref30_Same.l0
      repeat' first
      | (with_reducible exact ih0 _ _ _ _ _ _ _ _ _ _ _ _ _)
      | (with_reducible exact ih1 _ _ _ _ _ _ _ _ _ _ _ _ _)
      | (with_reducible exact crossbarref30_SameRecords.mono _ _ _)
      | (with_reducible exact LeO.refl _)
      | (with_reducible exact LeO.none _)
      | (with_reducible refine LeO.ite ?_ ?_)
      | (with_reducible refine LeO.bind ?_ (fun _ => ?_))
      | exact ih0 _ _ _ _ _ _ _ _ _ _ _ _ _
      | exact ih1 _ _ _ _ _ _ _ _ _ _ _ _ _
      | exact crossbarref30_SameRecords.mono _ _ _
      | exact LeO.none _
      | refine LeO.ite ?_ ?_
      | refine LeO.bind ?_ (fun _ => ?_)
theorem crossbarref30_Same.mono : ∀ a0 a1 a2 a3 a4 a5 a6 a7 a8 a9 a10 a11 k, LeO (crossbarref30_Same.f k a0 a1 a2 a3 a4 a5 a6 a7 a8 a9 a10 a11) (crossbarref30_Same.f (k + 1) a0 a1 a2 a3 a4 a5 a6 a7 a8 a9 a10 a11) := by
  intro a0 a1 a2 a3 a4 a5 a6 a7 a8 a9 a10 a11 k
  obtain ⟨ih0, ih1⟩ := crossbarref30_Same.mono_l k
  unfold crossbarref30_Same.f
  repeat' first
      | (with_reducible exact ih0 _ _ _ _ _ _ _ _ _ _ _ _ _)
      | (with_reducible exact ih1 _ _ _ _ _ _ _ _ _ _ _ _ _)
      | (with_reducible exact crossbarref30_SameRecords.mono _ _ _)
      | (with_reducible exact LeO.refl _)
      | (with_reducible exact LeO.none _)
      | (with_reducible refine LeO.ite ?_ ?_)
      | (with_reducible refine LeO.bind ?_ (fun _ => ?_))
      | exact ih0 _ _ _ _ _ _ _ _ _ _ _ _ _
      | exact ih1 _ _ _ _ _ _ _ _ _ _ _ _ _
      | exact crossbarref30_SameRecords.mono _ _ _
      | exact LeO.none _
      | refine LeO.ite ?_ ?_
      | refine LeO.bind ?_ (fun _ => ?_)
-- NOT PRINTED: function 14 (crossbarlaw30_ClearingPollIsStopAndWait)

-- NOT PRINTED: function 15 (crossbarlaw30_ClearingDuplicatesChangeNothing)

-- NOT PRINTED: function 16 (crossbarlaw30_ClearingKeepsOrder)

end Go.Proofs.Ytbfhohpbldadbaa.P

namespace Go.Proofs.Ytbfhohpbldadbaa.P
open Go Go.RowKit Go.Proofs.YtbfhohpbldadbaaW.PrintWords Go.Proofs.YtbfhohpbldadbaaW.PrintLast Go.Proofs.YtbfhohpbldadbaaW.PrintMore
set_option linter.unusedVariables false
set_option linter.unusedSimpArgs false
theorem same_l0 (a : List S39) (hl : a.length ≤ 2000000) : ∀ (d i k : Nat), i + d = a.length → d + 1 ≤ k → crossbarref30_SameRecords.l0 k a a (i : Int) = some true
  | d, i, 0, _, hk => absurd hk (by omega)
  | 0, i, k + 1, hi, _ => by
    unfold crossbarref30_SameRecords.l0
    rw [if_neg (show ¬ ((i : Int) < (a.length : Int)) by omega)]
  | d + 1, i, k + 1, hi, hk => by
    unfold crossbarref30_SameRecords.l0
    rw [if_pos (show (i : Int) < (a.length : Int) by omega), if_pos (show (0 : Int) ≤ i by omega), if_pos (show (i : Int) < (a.length : Int) by omega), if_neg (by simp), wid (n := (i : Int) + 1) (by omega) (by omega), show ((i : Int) + 1) = ((i + 1 : Nat) : Int) by omega]
    exact same_l0 a hl d (i + 1) k (by omega) (by omega)
theorem same_refl (a : List S39) (hl : a.length ≤ 2000000) (k : Nat) (hk : a.length + 1 ≤ k) : crossbarref30_SameRecords.f k a a = some true := by
  unfold crossbarref30_SameRecords.f
  rw [if_pos rfl]
  exact same_l0 a hl a.length 0 k (by omega) (by omega)
/-- An end in a box, as it reads. -/
structure HX (W : World) (t : Nat) (A0 : Option Addr) (c0 : Nat) (A3 : Option Addr) (c3 : Nat) (x : S61) : Prop where
  blk : EBlk W t 61 (.slice A0 x.f0.length c0) x.f1 x.f2 (.slice A3 x.f3.length c3) x.f4 x.f5
  o : Kd.C kL W A0 x.f0.length x.f0
  lo : x.f0.length ≤ c0
  i : Kd.C k39 W A3 x.f3.length x.f3
  li : x.f3.length ≤ c3
theorem HX.below {W W' : World} {t : Nat} {A0 : Option Addr} {c0 : Nat} {A3 : Option Addr} {c3 : Nat} {x : S61} (h : HX W t A0 c0 A3 c3 x) (hb : Below W.heap.size W W') : HX W' t A0 c0 A3 c3 x :=
  ⟨h.blk.below hb, Kd.C_below h.o hb, h.lo, Kd.C_below h.i hb, h.li⟩
end Go.Proofs.Ytbfhohpbldadbaa.P

namespace Go.Proofs.Ytbfhohpbldadbaa.P
open Go Go.RowKit Go.Proofs.YtbfhohpbldadbaaW.PrintWords Go.Proofs.YtbfhohpbldadbaaW.PrintLast Go.Proofs.YtbfhohpbldadbaaW.PrintMore
set_option linter.unusedVariables false
set_option linter.unusedSimpArgs false
theorem AtL.keep {w w' : World} {a : Addr} {A : Option Addr} {c : Nat} {l : List S39} (h : AtL w a A c l) (hb : Below w.heap.size w w') : AtL w' a A c l := ⟨cell_keep h.c0 hb, h.le, Kd.C_below h.cc hb⟩
theorem sameR (A1 : Option Addr) (c1 : Nat) (A2 : Option Addr) (c2 : Nat) (a : List S39) (w : World) (h1 : Kd.C k39 w A1 a.length a) (l1 : a.length ≤ c1) (h2 : Kd.C k39 w A2 a.length a) (l2 : a.length ≤ c2) (hl : a.length ≤ 2000000) :
    Calls Try.prog 42 #[.slice A1 a.length c1, .slice A2 a.length c2] w fun e w' => e = .returned (.bool true) ∧ Below w.heap.size w w' := by
  refine (crossbarref30_SameRecords.calls (a.length + 1) A1 c1 a A2 c2 a true w h1 l1 h2 l2 (same_refl a hl _ (Nat.le_refl _))).mono ?_
  rintro e w' ⟨h, hd⟩
  exact ⟨h, hd.below⟩
end Go.Proofs.Ytbfhohpbldadbaa.P

namespace Go.Proofs.Ytbfhohpbldadbaa.P
open Go Go.RowKit Go.Proofs.YtbfhohpbldadbaaW.PrintWords Go.Proofs.YtbfhohpbldadbaaW.PrintLast Go.Proofs.YtbfhohpbldadbaaW.PrintMore
set_option linter.unusedVariables false
set_option linter.unusedSimpArgs false
theorem check_make {o : List (List S39)} {f1 f2 f5 : Int} (h1 : o.length ≤ 64) (h2 : ∀ l ∈ o, 1 ≤ l.length ∧ l.length ≤ 1024) (a1 : 0 ≤ f1) (a2 : f1 ≤ 1099511627776) (b1 : 0 ≤ f2) (b2 : f2 ≤ 1099511627776) (h5 : f5 = -1 ∨ (0 < o.length ∧ 0 ≤ f5 ∧ f5 ≤ 1099511627779)) : clCheck o f1 f2 f5 = 0 := by
  unfold clCheck
  have e1 : o.any (fun l => !sizedB l.length) = false := by
    rw [List.any_eq_false]
    intro l hl
    have := h2 l hl
    simp only [sizedB, Bool.not_eq_true, Bool.not_eq_false', Bool.and_eq_true, decide_eq_true_eq]
    omega
  have e2 : oddT f1 = false := by simp [oddT]; omega
  have e3 : oddT f2 = false := by simp [oddT]; omega
  rw [e1, e2, e3, if_neg (by simp), if_neg, if_neg]
  · simp; omega
  · intro hx
    rcases h5 with rfl | ⟨ha, hb, hc⟩
    · simp at hx
    · have hr : runB o.length f5 = true := by unfold runB; simp only [Bool.and_eq_true, decide_eq_true_eq]; omega
      rw [hr] at hx; simp at hx
theorem recv_eq {c : S61} {b : S83} {now : Int} (hc : clCheck c.f0 c.f1 c.f2 c.f5 = 0) (hv : ¬ (oddT now = true ∨ oddT b.f0 = true ∨ validBatch b = false)) : recvF c b now = if b.f1 = true then ackF c b.f0 else accF c b.f0 b.f2 := by
  unfold recvF
  rw [if_neg (by rw [hc]; simp), if_neg hv]
end Go.Proofs.Ytbfhohpbldadbaa.P

namespace Go.Proofs.Ytbfhohpbldadbaa.P
open Go Go.RowKit Go.Proofs.YtbfhohpbldadbaaW.PrintWords Go.Proofs.YtbfhohpbldadbaaW.PrintLast Go.Proofs.YtbfhohpbldadbaaW.PrintMore
set_option linter.unusedVariables false
set_option linter.unusedSimpArgs false
theorem poll_eq {c : S61} {now : Int} (hc : clCheck c.f0 c.f1 c.f2 c.f5 = 0) (hv : oddT now = false) : pollF c now = (⟨c.f0, c.f1, c.f2, c.f3, false, if sendB c.f0 c.f5 now = true then now + 3 else c.f5⟩, pollL c.f0 c.f1 c.f2 c.f4 c.f5 now, 0) := by
  unfold pollF
  rw [if_neg (by rw [hc]; simp), if_neg (by rw [hv]; simp)]
/-- The cells of a batch in a row. -/
structure AtB83 (w : World) (a : Addr) (b : S83) (A2 : Option Addr) (k2 : Nat) : Prop where
  c0 : w.cell? a = some (.int .i64 b.f0)
  c1 : w.cell? ⟨a.block, a.off + 1, none⟩ = some (.bool b.f1)
  c2 : w.cell? ⟨a.block, a.off + 2, none⟩ = some (.slice A2 b.f2.length k2)
  le : b.f2.length ≤ k2
  cc : Kd.C k39 w A2 b.f2.length b.f2
theorem B83_cell {w : World} {A : Option Addr} {n : Nat} {xs : List S83} (h : Kd.C k83 w A n xs) (i : Nat) (hi : i < n) (hl : i < xs.length) : ∃ ad A2 c2, A = some ad ∧ AtB83 w (ad.add (i * 3)) (xs[i]'hl) A2 c2 := by
  obtain ⟨ad, A2, c2, hA, h0, h1, h2, h3, h4⟩ := at_T83 h (i : Int) (by omega) (by omega)
  have e : rd_T83 xs (i : Int) = xs[i]'hl := by unfold rd_T83; rw [Int.toNat_natCast]; exact getD_at hl _
  rw [e] at h0 h1 h2 h3 h4
  simp only [Int.toNat_natCast] at h0 h1 h2
  exact ⟨ad, A2, c2, hA, h0, h1, h2, h3, h4⟩
end Go.Proofs.Ytbfhohpbldadbaa.P

namespace Go.Proofs.Ytbfhohpbldadbaa.P
open Go Go.RowKit Go.Proofs.YtbfhohpbldadbaaW.PrintWords Go.Proofs.YtbfhohpbldadbaaW.PrintLast Go.Proofs.YtbfhohpbldadbaaW.PrintMore
set_option linter.unusedVariables false
set_option linter.unusedSimpArgs false
/-- The cells of a channel. -/
def ChB (W : World) (g : Nat) (vo0 vi0 : Value) (x0 : S61) (vo1 vi1 : Value) (x1 : S61) (w0 w1 p0 p1 : Value) (now : Int) : Prop :=
  W.heap[g]? = some (.cells #[vo0, .int .i64 x0.f1, .int .i64 x0.f2, vi0, .bool x0.f4, .int .i64 x0.f5, vo1, .int .i64 x1.f1, .int .i64 x1.f2, vi1, .bool x1.f4, .int .i64 x1.f5, w0, w1, p0, p1, .int .i64 now] 69 (0, 0))
section
variable {W W' : World} {g : Nat} {vo0 vi0 vo1 vi1 w0 w1 p0 p1 : Value} {x0 x1 : S61} {now : Int}
theorem ChB.c0 (h : ChB W g vo0 vi0 x0 vo1 vi1 x1 w0 w1 p0 p1 now) : W.cell? ⟨g, 0, none⟩ = some vo0 := (cell_of_row W g 0 _ 69 (0, 0) h).trans rfl
theorem ChB.c1 (h : ChB W g vo0 vi0 x0 vo1 vi1 x1 w0 w1 p0 p1 now) : W.cell? ⟨g, 1, none⟩ = some (.int .i64 x0.f1) := (cell_of_row W g 1 _ 69 (0, 0) h).trans rfl
theorem ChB.c2 (h : ChB W g vo0 vi0 x0 vo1 vi1 x1 w0 w1 p0 p1 now) : W.cell? ⟨g, 2, none⟩ = some (.int .i64 x0.f2) := (cell_of_row W g 2 _ 69 (0, 0) h).trans rfl
theorem ChB.c3 (h : ChB W g vo0 vi0 x0 vo1 vi1 x1 w0 w1 p0 p1 now) : W.cell? ⟨g, 3, none⟩ = some vi0 := (cell_of_row W g 3 _ 69 (0, 0) h).trans rfl
theorem ChB.c4 (h : ChB W g vo0 vi0 x0 vo1 vi1 x1 w0 w1 p0 p1 now) : W.cell? ⟨g, 4, none⟩ = some (.bool x0.f4) := (cell_of_row W g 4 _ 69 (0, 0) h).trans rfl
theorem ChB.c5 (h : ChB W g vo0 vi0 x0 vo1 vi1 x1 w0 w1 p0 p1 now) : W.cell? ⟨g, 5, none⟩ = some (.int .i64 x0.f5) := (cell_of_row W g 5 _ 69 (0, 0) h).trans rfl
theorem ChB.c6 (h : ChB W g vo0 vi0 x0 vo1 vi1 x1 w0 w1 p0 p1 now) : W.cell? ⟨g, 6, none⟩ = some vo1 := (cell_of_row W g 6 _ 69 (0, 0) h).trans rfl
theorem ChB.c7 (h : ChB W g vo0 vi0 x0 vo1 vi1 x1 w0 w1 p0 p1 now) : W.cell? ⟨g, 7, none⟩ = some (.int .i64 x1.f1) := (cell_of_row W g 7 _ 69 (0, 0) h).trans rfl
theorem ChB.c8 (h : ChB W g vo0 vi0 x0 vo1 vi1 x1 w0 w1 p0 p1 now) : W.cell? ⟨g, 8, none⟩ = some (.int .i64 x1.f2) := (cell_of_row W g 8 _ 69 (0, 0) h).trans rfl
theorem ChB.c9 (h : ChB W g vo0 vi0 x0 vo1 vi1 x1 w0 w1 p0 p1 now) : W.cell? ⟨g, 9, none⟩ = some vi1 := (cell_of_row W g 9 _ 69 (0, 0) h).trans rfl
theorem ChB.c10 (h : ChB W g vo0 vi0 x0 vo1 vi1 x1 w0 w1 p0 p1 now) : W.cell? ⟨g, 10, none⟩ = some (.bool x1.f4) := (cell_of_row W g 10 _ 69 (0, 0) h).trans rfl
theorem ChB.c11 (h : ChB W g vo0 vi0 x0 vo1 vi1 x1 w0 w1 p0 p1 now) : W.cell? ⟨g, 11, none⟩ = some (.int .i64 x1.f5) := (cell_of_row W g 11 _ 69 (0, 0) h).trans rfl
theorem ChB.c12 (h : ChB W g vo0 vi0 x0 vo1 vi1 x1 w0 w1 p0 p1 now) : W.cell? ⟨g, 12, none⟩ = some w0 := (cell_of_row W g 12 _ 69 (0, 0) h).trans rfl
theorem ChB.c13 (h : ChB W g vo0 vi0 x0 vo1 vi1 x1 w0 w1 p0 p1 now) : W.cell? ⟨g, 13, none⟩ = some w1 := (cell_of_row W g 13 _ 69 (0, 0) h).trans rfl
theorem ChB.c14 (h : ChB W g vo0 vi0 x0 vo1 vi1 x1 w0 w1 p0 p1 now) : W.cell? ⟨g, 14, none⟩ = some p0 := (cell_of_row W g 14 _ 69 (0, 0) h).trans rfl
theorem ChB.c15 (h : ChB W g vo0 vi0 x0 vo1 vi1 x1 w0 w1 p0 p1 now) : W.cell? ⟨g, 15, none⟩ = some p1 := (cell_of_row W g 15 _ 69 (0, 0) h).trans rfl
theorem ChB.c16 (h : ChB W g vo0 vi0 x0 vo1 vi1 x1 w0 w1 p0 p1 now) : W.cell? ⟨g, 16, none⟩ = some (.int .i64 now) := (cell_of_row W g 16 _ 69 (0, 0) h).trans rfl
theorem ChB.below (h : ChB W g vo0 vi0 x0 vo1 vi1 x1 w0 w1 p0 p1 now) (hb : Below W.heap.size W W') : ChB W' g vo0 vi0 x0 vo1 vi1 x1 w0 w1 p0 p1 now := (hb.block g (heap_lt h)).trans h
/-- Six stores: the end 0. -/
theorem ChB.end0 (h : ChB W g vo0 vi0 x0 vo1 vi1 x1 w0 w1 p0 p1 now) (vo vi : Value) (x : S61) :
    ∃ W', W' = (((((W.setCell ⟨g, 0, none⟩ vo).setCell ⟨g, 1, none⟩ (.int .i64 x.f1)).setCell ⟨g, 2, none⟩ (.int .i64 x.f2)).setCell ⟨g, 3, none⟩ vi).setCell ⟨g, 4, none⟩ (.bool x.f4)).setCell ⟨g, 5, none⟩ (.int .i64 x.f5) ∧ ChB W' g vo vi x vo1 vi1 x1 w0 w1 p0 p1 now ∧ Fr (fun k => k = g) W W' := by
  refine ⟨_, rfl, ?_, ?_⟩
  · exact blk_put (blk_put (blk_put (blk_put (blk_put (blk_put h 0 _ rfl) 1 _ rfl) 2 _ rfl) 3 _ rfl) 4 _ rfl) 5 _ rfl
  · have tr : ∀ {A B C : World}, Fr (fun k => k = g) A B → Fr (fun k => k = g) B C → Fr (fun k => k = g) A C := fun h k => Fr.trans h k (fun _ _ h => h)
    exact tr (tr (tr (tr (tr (Fr.set W g 0 _) (Fr.set _ g 1 _)) (Fr.set _ g 2 _)) (Fr.set _ g 3 _)) (Fr.set _ g 4 _)) (Fr.set _ g 5 _)
/-- Six stores: the end 1. -/
theorem ChB.end1 (h : ChB W g vo0 vi0 x0 vo1 vi1 x1 w0 w1 p0 p1 now) (vo vi : Value) (x : S61) :
    ∃ W', W' = (((((W.setCell ⟨g, 6, none⟩ vo).setCell ⟨g, 7, none⟩ (.int .i64 x.f1)).setCell ⟨g, 8, none⟩ (.int .i64 x.f2)).setCell ⟨g, 9, none⟩ vi).setCell ⟨g, 10, none⟩ (.bool x.f4)).setCell ⟨g, 11, none⟩ (.int .i64 x.f5) ∧ ChB W' g vo0 vi0 x0 vo vi x w0 w1 p0 p1 now ∧ Fr (fun k => k = g) W W' := by
  refine ⟨_, rfl, ?_, ?_⟩
  · exact blk_put (blk_put (blk_put (blk_put (blk_put (blk_put h 6 _ rfl) 7 _ rfl) 8 _ rfl) 9 _ rfl) 10 _ rfl) 11 _ rfl
  · have tr : ∀ {A B C : World}, Fr (fun k => k = g) A B → Fr (fun k => k = g) B C → Fr (fun k => k = g) A C := fun h k => Fr.trans h k (fun _ _ h => h)
    exact tr (tr (tr (tr (tr (Fr.set W g 6 _) (Fr.set _ g 7 _)) (Fr.set _ g 8 _)) (Fr.set _ g 9 _)) (Fr.set _ g 10 _)) (Fr.set _ g 11 _)
end
/-- No block of the channel's own: not its cells, not its four rows. -/
def NR (g : Nat) (w0 w1 p0 p1 : Value) (k : Nat) : Prop := k ≠ g ∧ some k ≠ w0.ownBlock ∧ some k ≠ w1.ownBlock ∧ some k ≠ p0.ownBlock ∧ some k ≠ p1.ownBlock
/-- A channel in memory, made from w on: the ends x0, x1; the messages under way l0 (to 0), l1 (to 1); the records offered r0, r1; the time. -/
structure Chan (w W : World) (g : Nat) (vo0 vi0 : Value) (x0 : S61) (vo1 vi1 : Value) (x1 : S61) (w0 w1 : Value) (l0 l1 : List S83) (p0 p1 : Value) (r0 r1 : List S39) (now : Int) : Prop where
  low : Below w.heap.size w W
  ge : w.heap.size ≤ g
  blk : ChB W g vo0 vi0 x0 vo1 vi1 x1 w0 w1 p0 p1 now
  o0 : Kd.V kL 28 W 0 (NR g w0 w1 p0 p1) vo0 x0.f0
  i0 : Kd.V k39 39 W 0 (NR g w0 w1 p0 p1) vi0 x0.f3
  o1 : Kd.V kL 28 W 0 (NR g w0 w1 p0 p1) vo1 x1.f0
  i1 : Kd.V k39 39 W 0 (NR g w0 w1 p0 p1) vi1 x1.f3
  ww0 : Kd.R k83 83 W w.heap.size (fun k => k ≠ g ∧ some k ≠ w1.ownBlock ∧ some k ≠ p0.ownBlock ∧ some k ≠ p1.ownBlock) w0 l0
  ww1 : Kd.R k83 83 W w.heap.size (fun k => k ≠ g ∧ some k ≠ w0.ownBlock ∧ some k ≠ p0.ownBlock ∧ some k ≠ p1.ownBlock) w1 l1
  pp0 : Kd.R k39 39 W w.heap.size (fun k => k ≠ g ∧ some k ≠ w0.ownBlock ∧ some k ≠ w1.ownBlock ∧ some k ≠ p1.ownBlock) p0 r0
  pp1 : Kd.R k39 39 W w.heap.size (fun k => k ≠ g ∧ some k ≠ w0.ownBlock ∧ some k ≠ w1.ownBlock ∧ some k ≠ p0.ownBlock) p1 r1
theorem Chan.below {w W W' : World} {g : Nat} {vo0 vi0 : Value} {x0 : S61} {vo1 vi1 : Value} {x1 : S61} {w0 w1 : Value} {l0 l1 : List S83} {p0 p1 : Value} {r0 r1 : List S39} {now : Int}
    (h : Chan w W g vo0 vi0 x0 vo1 vi1 x1 w0 w1 l0 l1 p0 p1 r0 r1 now) (hb : Below W.heap.size W W') : Chan w W' g vo0 vi0 x0 vo1 vi1 x1 w0 w1 l0 l1 p0 p1 r0 r1 now :=
  ⟨bb h.low hb, h.ge, h.blk.below hb, Kd.V_below h.o0 hb, Kd.V_below h.i0 hb, Kd.V_below h.o1 hb, Kd.V_below h.i1 hb, Kd.R_below h.ww0 hb, Kd.R_below h.ww1 hb, Kd.R_below h.pp0 hb, Kd.R_below h.pp1 hb⟩
/-- The cells of the channel are written, nothing else: another end 0. -/
theorem Chan.set0 {w W W' : World} {g : Nat} {vo0 vi0 : Value} {x0 : S61} {vo1 vi1 : Value} {x1 : S61} {w0 w1 : Value} {l0 l1 : List S83} {p0 p1 : Value} {r0 r1 : List S39} {now : Int}
    (h : Chan w W g vo0 vi0 x0 vo1 vi1 x1 w0 w1 l0 l1 p0 p1 r0 r1 now) {vo vi : Value} {x : S61} (hf : Fr (fun k => k = g) W W') (hb : ChB W' g vo vi x vo1 vi1 x1 w0 w1 p0 p1 now) (ho : Kd.V kL 28 W 0 (NR g w0 w1 p0 p1) vo x.f0) (hi : Kd.V k39 39 W 0 (NR g w0 w1 p0 p1) vi x.f3) : Chan w W' g vo vi x vo1 vi1 x1 w0 w1 l0 l1 p0 p1 r0 r1 now :=
  ⟨Fr.below hf h.low (Nat.le_refl _) (fun k hk => by have := h.ge; omega), h.ge, hb, Kd.V_step ho (fun k hk hlt => hf.same k hlt hk.1), Kd.V_step hi (fun k hk hlt => hf.same k hlt hk.1), Kd.V_step h.o1 (fun k hk hlt => hf.same k hlt hk.1), Kd.V_step h.i1 (fun k hk hlt => hf.same k hlt hk.1),
    Kd.R_step h.ww0 (fun k hk hlt => hf.same k hlt hk.1), Kd.R_step h.ww1 (fun k hk hlt => hf.same k hlt hk.1), Kd.R_step h.pp0 (fun k hk hlt => hf.same k hlt hk.1), Kd.R_step h.pp1 (fun k hk hlt => hf.same k hlt hk.1)⟩
theorem Chan.set1 {w W W' : World} {g : Nat} {vo0 vi0 : Value} {x0 : S61} {vo1 vi1 : Value} {x1 : S61} {w0 w1 : Value} {l0 l1 : List S83} {p0 p1 : Value} {r0 r1 : List S39} {now : Int}
    (h : Chan w W g vo0 vi0 x0 vo1 vi1 x1 w0 w1 l0 l1 p0 p1 r0 r1 now) {vo vi : Value} {x : S61} (hf : Fr (fun k => k = g) W W') (hb : ChB W' g vo0 vi0 x0 vo vi x w0 w1 p0 p1 now) (ho : Kd.V kL 28 W 0 (NR g w0 w1 p0 p1) vo x.f0) (hi : Kd.V k39 39 W 0 (NR g w0 w1 p0 p1) vi x.f3) : Chan w W' g vo0 vi0 x0 vo vi x w0 w1 l0 l1 p0 p1 r0 r1 now :=
  ⟨Fr.below hf h.low (Nat.le_refl _) (fun k hk => by have := h.ge; omega), h.ge, hb, Kd.V_step h.o0 (fun k hk hlt => hf.same k hlt hk.1), Kd.V_step h.i0 (fun k hk hlt => hf.same k hlt hk.1), Kd.V_step ho (fun k hk hlt => hf.same k hlt hk.1), Kd.V_step hi (fun k hk hlt => hf.same k hlt hk.1),
    Kd.R_step h.ww0 (fun k hk hlt => hf.same k hlt hk.1), Kd.R_step h.ww1 (fun k hk hlt => hf.same k hlt hk.1), Kd.R_step h.pp0 (fun k hk hlt => hf.same k hlt hk.1), Kd.R_step h.pp1 (fun k hk hlt => hf.same k hlt hk.1)⟩
/-- Values made after the channel are none of its blocks. -/
theorem Chan.fresh {w W : World} {g : Nat} {vo0 vi0 : Value} {x0 : S61} {vo1 vi1 : Value} {x1 : S61} {w0 w1 : Value} {l0 l1 : List S83} {p0 p1 : Value} {r0 r1 : List S39} {now : Int}
    (h : Chan w W g vo0 vi0 x0 vo1 vi1 x1 w0 w1 l0 l1 p0 p1 r0 r1 now) {k : Nat} (hk : W.heap.size ≤ k) : NR g w0 w1 p0 p1 k :=
  ⟨fun e => by have := heap_lt h.blk; omega, fun e => by have := Kd.R_lt h.ww0 k e.symm; omega, fun e => by have := Kd.R_lt h.ww1 k e.symm; omega, fun e => by have := Kd.R_lt h.pp0 k e.symm; omega, fun e => by have := Kd.R_lt h.pp1 k e.symm; omega⟩
set_option maxHeartbeats 8000000 in
set_option maxRecDepth 100000 in
theorem start_calls_ (w : World) : Calls Try.prog 34 #[] w fun e w' => ∃ g, e = .returned (.pointer (some ⟨g, 0, none⟩)) ∧ Chan w w' g (.slice none 0 0) (.slice none 0 0) e0 (.slice none 0 0) (.slice none 0 0) e0 (.slice none 0 0) (.slice none 0 0) [] [] (.slice none 0 0) (.slice none 0 0) [] [] 0 := by
  go_enter Try.func34, Try.ntmps34
  go_wp2_with fail
  obtain ⟨w1, hw1⟩ : ∃ w1, w1 = w.alloc (.cells #[.slice none 0 0, .int .i64 0, .int .i64 0, .slice none 0 0, .bool false, .int .i64 0, .slice none 0 0, .int .i64 0, .int .i64 0, .slice none 0 0, .bool false, .int .i64 0, .slice none 0 0, .slice none 0 0, .slice none 0 0, .slice none 0 0, .int .i64 0] 69) := ⟨_, rfl⟩
  rw [← hw1]
  have C0 := Lib.hid (show Chan w w1 w.heap.size (.slice none 0 0) (.slice none 0 0) z61 (.slice none 0 0) (.slice none 0 0) z61 (.slice none 0 0) (.slice none 0 0) [] [] (.slice none 0 0) (.slice none 0 0) [] [] 0 by
    rw [hw1]
    exact ⟨below_one _ _, Nat.le_refl _, heap_alloc_new w _, Kd.V_nil _ _ _ _ _, Kd.V_nil _ _ _ _ _, Kd.V_nil _ _ _ _ _, Kd.V_nil _ _ _ _ _, Kd.R_nil _ _ _ _ _, Kd.R_nil _ _ _ _ _, Kd.R_nil _ _ _ _ _, Kd.R_nil _ _ _ _ _⟩)
  clear hw1
  generalize w.heap.size = g at C0 ⊢
  have C := Lib.hid (C0.out.below (below_drew (Below.refl _ _)))
  clear C0
  refine start_ (n := 6) (S := fun w' => True) (ds := [5]) #[false, false, false, false, false, false] (by kernel_rfl) rfl rfl trivial (fun hHeld => ?_)
  generalize w1.drew = w2 at C hHeld ⊢
  refine pure_ (i := 0) (N := some 4) (v := ?_) (a' := ?_) #[true, false, false, false, false, false] rfl rfl (by kernel_rfl) (fun _ _ _ h => h) (Or.inl ⟨by rfl, ?_⟩) ?_ ?_
  rotate_left
  · intro w'
    go_simp
    with_reducible rfl
  rotate_left
  · simp only [Act.put, List.setIfInBounds_toArray, List.set_cons_zero, List.set_cons_succ, i64_w, i32_w]
    rfl
  refine pure_ (i := 2) (N := some 6) (v := ?_) (a' := ?_) #[true, false, true, false, false, false] rfl rfl (by kernel_rfl) (fun _ _ _ h => h) (Or.inl ⟨by rfl, ?_⟩) ?_ ?_
  rotate_left
  · intro w'
    go_simp
    with_reducible rfl
  rotate_left
  · simp only [Act.put, List.setIfInBounds_toArray, List.set_cons_zero, List.set_cons_succ, i64_w, i32_w]
    rfl
  refine pure_ (i := 3) (N := some 7) (v := ?_) (a' := ?_) #[true, false, true, true, false, false] rfl rfl (by kernel_rfl) (fun _ _ _ h => h) (Or.inl ⟨by rfl, ?_⟩) ?_ ?_
  rotate_left
  · intro w'
    go_simp
    with_reducible rfl
  rotate_left
  · simp only [Act.put, List.setIfInBounds_toArray, List.set_cons_zero, List.set_cons_succ, i64_w, i32_w]
    rfl
  refine one_ (i := 1) (N := some 5) #[true, true, true, true, false, false] rfl rfl (by kernel_rfl) (by decide) (fun K hK => ?_)
  refine goes_ Try.func69 (by kernel_rfl) rfl #[] (by rfl) rfl rfl (by simp only [List.map_toArray, List.map_cons, List.map_nil]) ?_
  with_reducible refine (new_calls w2).mono ?_
  rintro e w3 ⟨rfl, hb⟩
  refine ⟨_, rfl, ?_⟩
  replace C := Lib.hid (C.out.below hb)
  clear hb
  refine hK.out _ _ trivial (fun hHeld => ?_)
  clear hK K
  refine norm_ (a' := ?_) ?_ ?_
  rotate_left
  · show Act.put _ (some 5) _ = _
    simp only [Act.put, List.setIfInBounds_toArray, List.set_cons_zero, List.set_cons_succ, i64_w, i32_w]
    rfl
  refine pure_ (i := 4) (N := some 8) (v := ?_) (a' := ?_) #[true, true, true, true, true, false] rfl rfl (by kernel_rfl) (fun _ _ _ h => h) (Or.inl ⟨by rfl, ?_⟩) ?_ ?_
  rotate_left
  · intro w'
    go_simp
    with_reducible rfl
  rotate_left
  · simp only [Act.put, List.setIfInBounds_toArray, List.set_cons_zero, List.set_cons_succ, i64_w, i32_w]
    rfl
  refine last_ (i := 5) (N := none) #[true, true, true, true, true, true] rfl rfl (by kernel_rfl) (by decide) (fun K hK => ?_)
  have z0 := C.out.blk.c0; have z1 := C.out.blk.c1; have z2 := C.out.blk.c2; have z3 := C.out.blk.c3; have z4 := C.out.blk.c4; have z5 := C.out.blk.c5; have y := blk_frozen C.out.blk
  refine skip_ (w1 := ?_) (by rfl) rfl ?_ ?_
  rotate_left
  · go_simp
    rfl
  obtain ⟨w4, hw9, hB9, hF9⟩ := C.out.blk.end0 (.slice none 0 0) (.slice none 0 0) ⟨[], 0, 0, [], false, -1⟩
  simp only at hw9
  rw [← hw9]
  clear hw9 z0 z1 z2 z3 z4 z5 y
  refine hK.out _ _ ?_
  clear hK K
  refine done_ (by kernel_rfl) ?_

  replace C := Lib.hid (C.out.set0 hF9 hB9 (Kd.V_nil _ _ _ _ _) (Kd.V_nil _ _ _ _ _))
  clear hB9 hF9 hHeld
  go_wp2_with fail
  replace C := Lib.hid (C.out.below (below_drew (Below.refl _ _)))
  refine start_ (n := 6) (S := fun w' => True) (ds := [5]) #[false, false, false, false, false, false] (by kernel_rfl) rfl rfl trivial (fun hHeld => ?_)
  generalize w4.drew = w5 at C hHeld ⊢
  refine pure_ (i := 0) (N := some 9) (v := ?_) (a' := ?_) #[true, false, false, false, false, false] rfl rfl (by kernel_rfl) (fun _ _ _ h => h) (Or.inl ⟨by rfl, ?_⟩) ?_ ?_
  rotate_left
  · intro w'
    go_simp
    with_reducible rfl
  rotate_left
  · simp only [Act.put, List.setIfInBounds_toArray, List.set_cons_zero, List.set_cons_succ, i64_w, i32_w]
    rfl
  refine pure_ (i := 2) (N := some 11) (v := ?_) (a' := ?_) #[true, false, true, false, false, false] rfl rfl (by kernel_rfl) (fun _ _ _ h => h) (Or.inl ⟨by rfl, ?_⟩) ?_ ?_
  rotate_left
  · intro w'
    go_simp
    with_reducible rfl
  rotate_left
  · simp only [Act.put, List.setIfInBounds_toArray, List.set_cons_zero, List.set_cons_succ, i64_w, i32_w]
    rfl
  refine pure_ (i := 3) (N := some 12) (v := ?_) (a' := ?_) #[true, false, true, true, false, false] rfl rfl (by kernel_rfl) (fun _ _ _ h => h) (Or.inl ⟨by rfl, ?_⟩) ?_ ?_
  rotate_left
  · intro w'
    go_simp
    with_reducible rfl
  rotate_left
  · simp only [Act.put, List.setIfInBounds_toArray, List.set_cons_zero, List.set_cons_succ, i64_w, i32_w]
    rfl
  refine one_ (i := 1) (N := some 10) #[true, true, true, true, false, false] rfl rfl (by kernel_rfl) (by decide) (fun K hK => ?_)
  refine goes_ Try.func69 (by kernel_rfl) rfl #[] (by rfl) rfl rfl (by simp only [List.map_toArray, List.map_cons, List.map_nil]) ?_
  with_reducible refine (new_calls w5).mono ?_
  rintro e w6 ⟨rfl, hb⟩
  refine ⟨_, rfl, ?_⟩
  replace C := Lib.hid (C.out.below hb)
  clear hb
  refine hK.out _ _ trivial (fun hHeld => ?_)
  clear hK K
  refine norm_ (a' := ?_) ?_ ?_
  rotate_left
  · show Act.put _ (some 10) _ = _
    simp only [Act.put, List.setIfInBounds_toArray, List.set_cons_zero, List.set_cons_succ, i64_w, i32_w]
    rfl
  refine pure_ (i := 4) (N := some 13) (v := ?_) (a' := ?_) #[true, true, true, true, true, false] rfl rfl (by kernel_rfl) (fun _ _ _ h => h) (Or.inl ⟨by rfl, ?_⟩) ?_ ?_
  rotate_left
  · intro w'
    go_simp
    with_reducible rfl
  rotate_left
  · simp only [Act.put, List.setIfInBounds_toArray, List.set_cons_zero, List.set_cons_succ, i64_w, i32_w]
    rfl
  refine last_ (i := 5) (N := none) #[true, true, true, true, true, true] rfl rfl (by kernel_rfl) (by decide) (fun K hK => ?_)
  have z0 := C.out.blk.c6; have z1 := C.out.blk.c7; have z2 := C.out.blk.c8; have z3 := C.out.blk.c9; have z4 := C.out.blk.c10; have z5 := C.out.blk.c11; have y := blk_frozen C.out.blk
  refine skip_ (w1 := ?_) (by rfl) rfl ?_ ?_
  rotate_left
  · go_simp
    rfl
  obtain ⟨w7, hw9, hB9, hF9⟩ := C.out.blk.end1 (.slice none 0 0) (.slice none 0 0) ⟨[], 0, 0, [], false, -1⟩
  simp only at hw9
  rw [← hw9]
  clear hw9 z0 z1 z2 z3 z4 z5 y
  refine hK.out _ _ ?_
  clear hK K
  refine done_ (by kernel_rfl) ?_

  replace C := Lib.hid (C.out.set1 hF9 hB9 (Kd.V_nil _ _ _ _ _) (Kd.V_nil _ _ _ _ _))
  clear hB9 hF9 hHeld
  go_wp2_with fail
  go_ret
  exact ⟨g, rfl, C.out⟩
end Go.Proofs.Ytbfhohpbldadbaa.P

namespace Go.Proofs.Ytbfhohpbldadbaa.P
open Go Go.RowKit Go.Proofs.YtbfhohpbldadbaaW.PrintWords Go.Proofs.YtbfhohpbldadbaaW.PrintLast Go.Proofs.YtbfhohpbldadbaaW.PrintMore
set_option linter.unusedVariables false
set_option linter.unusedSimpArgs false
theorem ne_after {W : World} {u v1 : Value} {k : Nat} (hat : v1.ownBlock = u.ownBlock ∨ ∃ b, v1.ownBlock = some b ∧ W.heap.size ≤ b) (hlt : k < W.heap.size) (hne : some k ≠ u.ownBlock) : some k ≠ v1.ownBlock := by
  rcases hat with h | ⟨b, h, hb⟩
  · rw [h]; exact hne
  · rw [h]; intro e; injection e with e; omega
theorem V_next {α : Type} {d : Kd α} {e : Nat} {W W' : World} {ok ok' : Nat → Prop} {u v : Value} {xs : List α} (h : Kd.V d e W 0 ok v xs) (hg : W.grownBy W' u.ownBlock) (hok : ∀ k, ok k → some k ≠ u.ownBlock) (hok' : ∀ k, ok k → k < W.heap.size → ok' k) : Kd.V d e W' 0 ok' v xs :=
  Kd.V_mono (Kd.V_grown (Kd.V_bound h) hg (fun k hk => hok k hk.1)) (fun k hk => hok' k hk.1 hk.2)
theorem R_next {α : Type} {d : Kd α} {e B : Nat} {W W' : World} {ok ok' : Nat → Prop} {u v : Value} {xs : List α} (h : Kd.R d e W B ok v xs) (hg : W.grownBy W' u.ownBlock) (hok : ∀ k, ok k → some k ≠ u.ownBlock) (hok' : ∀ k, ok k → k < W.heap.size → ok' k) : Kd.R d e W' B ok' v xs :=
  Kd.R_mono (Kd.R_grown (Kd.R_bound h) hg (fun k hk => hok k hk.1)) (fun k hk => hok' k hk.1 hk.2.2.1)
section
variable {w W W' : World} {g : Nat} {vo0 vi0 : Value} {x0 : S61} {vo1 vi1 : Value} {x1 : S61} {w0 w1 : Value} {l0 l1 : List S83} {p0 p1 : Value} {r0 r1 : List S39} {now : Int}
/-- The row of the messages to 1 has grown, and its cell is written. -/
theorem Chan.way1 (h : Chan w W g vo0 vi0 x0 vo1 vi1 x1 w0 w1 l0 l1 p0 p1 r0 r1 now) {v1 : Value} {l : List S83} (hb : Below w.heap.size w W') (hg : W.grownBy W' w1.ownBlock) (hat : v1.ownBlock = w1.ownBlock ∨ ∃ b, v1.ownBlock = some b ∧ W.heap.size ≤ b)
    (hR : Kd.R k83 83 W' w.heap.size (fun k => k ≠ g ∧ some k ≠ w0.ownBlock ∧ some k ≠ p0.ownBlock ∧ some k ≠ p1.ownBlock) v1 l) : Chan w (W'.setCell ⟨g, 13, none⟩ v1) g vo0 vi0 x0 vo1 vi1 x1 w0 v1 l0 l p0 p1 r0 r1 now := by
  have hne : some g ≠ w1.ownBlock := fun e => (h.ww1.1 g e.symm).1 rfl
  have hblk : ChB W' g vo0 vi0 x0 vo1 vi1 x1 w0 w1 p0 p1 now := blk_grown h.blk hg hne
  have nr : ∀ k, NR g w0 w1 p0 p1 k → k < W.heap.size → NR g w0 v1 p0 p1 k := fun k hk hlt => ⟨hk.1, hk.2.1, ne_after hat hlt hk.2.2.1, hk.2.2.2.1, hk.2.2.2.2⟩
  refine ⟨below_set (g := g) (w := w) (W := W') hb (Nat.le_refl _) h.ge 13 v1, h.ge, blk_put hblk 13 v1 rfl, ?_, ?_, ?_, ?_, ?_, ?_, ?_, ?_⟩
  · exact Kd.V_far (p := ⟨g, 13, none⟩) (V_next h.o0 hg (fun k hk => hk.2.2.1) nr) (fun k hk => hk.1) v1
  · exact Kd.V_far (p := ⟨g, 13, none⟩) (V_next h.i0 hg (fun k hk => hk.2.2.1) nr) (fun k hk => hk.1) v1
  · exact Kd.V_far (p := ⟨g, 13, none⟩) (V_next h.o1 hg (fun k hk => hk.2.2.1) nr) (fun k hk => hk.1) v1
  · exact Kd.V_far (p := ⟨g, 13, none⟩) (V_next h.i1 hg (fun k hk => hk.2.2.1) nr) (fun k hk => hk.1) v1
  · exact Kd.R_far (p := ⟨g, 13, none⟩) (R_next h.ww0 hg (fun k hk => hk.2.1) (fun k hk hlt => ⟨hk.1, ne_after hat hlt hk.2.1, hk.2.2⟩)) (fun k hk => hk.1) v1
  · exact Kd.R_far (p := ⟨g, 13, none⟩) hR (fun k hk => hk.1) v1
  · exact Kd.R_far (p := ⟨g, 13, none⟩) (R_next h.pp0 hg (fun k hk => hk.2.2.1) (fun k hk hlt => ⟨hk.1, hk.2.1, ne_after hat hlt hk.2.2.1, hk.2.2.2⟩)) (fun k hk => hk.1) v1
  · exact Kd.R_far (p := ⟨g, 13, none⟩) (R_next h.pp1 hg (fun k hk => hk.2.2.1) (fun k hk hlt => ⟨hk.1, hk.2.1, ne_after hat hlt hk.2.2.1, hk.2.2.2⟩)) (fun k hk => hk.1) v1
/-- The same, of the messages to 0. -/
theorem Chan.way0 (h : Chan w W g vo0 vi0 x0 vo1 vi1 x1 w0 w1 l0 l1 p0 p1 r0 r1 now) {v1 : Value} {l : List S83} (hb : Below w.heap.size w W') (hg : W.grownBy W' w0.ownBlock) (hat : v1.ownBlock = w0.ownBlock ∨ ∃ b, v1.ownBlock = some b ∧ W.heap.size ≤ b)
    (hR : Kd.R k83 83 W' w.heap.size (fun k => k ≠ g ∧ some k ≠ w1.ownBlock ∧ some k ≠ p0.ownBlock ∧ some k ≠ p1.ownBlock) v1 l) : Chan w (W'.setCell ⟨g, 12, none⟩ v1) g vo0 vi0 x0 vo1 vi1 x1 v1 w1 l l1 p0 p1 r0 r1 now := by
  have hne : some g ≠ w0.ownBlock := fun e => (h.ww0.1 g e.symm).1 rfl
  have hblk : ChB W' g vo0 vi0 x0 vo1 vi1 x1 w0 w1 p0 p1 now := blk_grown h.blk hg hne
  have nr : ∀ k, NR g w0 w1 p0 p1 k → k < W.heap.size → NR g v1 w1 p0 p1 k := fun k hk hlt => ⟨hk.1, ne_after hat hlt hk.2.1, hk.2.2⟩
  refine ⟨below_set (g := g) (w := w) (W := W') hb (Nat.le_refl _) h.ge 12 v1, h.ge, blk_put hblk 12 v1 rfl, ?_, ?_, ?_, ?_, ?_, ?_, ?_, ?_⟩
  · exact Kd.V_far (p := ⟨g, 12, none⟩) (V_next h.o0 hg (fun k hk => hk.2.1) nr) (fun k hk => hk.1) v1
  · exact Kd.V_far (p := ⟨g, 12, none⟩) (V_next h.i0 hg (fun k hk => hk.2.1) nr) (fun k hk => hk.1) v1
  · exact Kd.V_far (p := ⟨g, 12, none⟩) (V_next h.o1 hg (fun k hk => hk.2.1) nr) (fun k hk => hk.1) v1
  · exact Kd.V_far (p := ⟨g, 12, none⟩) (V_next h.i1 hg (fun k hk => hk.2.1) nr) (fun k hk => hk.1) v1
  · exact Kd.R_far (p := ⟨g, 12, none⟩) hR (fun k hk => hk.1) v1
  · exact Kd.R_far (p := ⟨g, 12, none⟩) (R_next h.ww1 hg (fun k hk => hk.2.1) (fun k hk hlt => ⟨hk.1, ne_after hat hlt hk.2.1, hk.2.2⟩)) (fun k hk => hk.1) v1
  · exact Kd.R_far (p := ⟨g, 12, none⟩) (R_next h.pp0 hg (fun k hk => hk.2.1) (fun k hk hlt => ⟨hk.1, ne_after hat hlt hk.2.1, hk.2.2⟩)) (fun k hk => hk.1) v1
  · exact Kd.R_far (p := ⟨g, 12, none⟩) (R_next h.pp1 hg (fun k hk => hk.2.1) (fun k hk hlt => ⟨hk.1, ne_after hat hlt hk.2.1, hk.2.2⟩)) (fun k hk => hk.1) v1
end
theorem poll_lit {c : S61} {now : Int} {x : S61} {l : List S83} {r : Int} (h : pollF c now = (x, l, r)) (A0 : Option Addr) (c0 : Nat) (A3 : Option Addr) (c3 : Nat) (w : World) (hr : Kd.C kL w A0 c.f0.length c.f0) (hr3 : Kd.C k39 w A3 c.f3.length c.f3) (hl : c.f3.length ≤ 1000000) :
    Calls Try.prog 44 #[.agg #[.slice A0 c.f0.length c0, .int .i64 c.f1, .int .i64 c.f2, .slice A3 c.f3.length c3, .bool c.f4, .int .i64 c.f5], .int .i64 now] w (Poll3 x l r w) := by
  have hc := poll_calls A0 c0 A3 c3 c now w hr hr3 hl
  rw [h] at hc
  exact hc
theorem wr1 : wrap64 1 = 1 := wid (by decide) (by decide)
theorem wr0 : wrap64 0 = 0 := wid (by decide) (by decide)
theorem six_read {W : World} {B : Nat} {v : Value} {x : S61} (h : EndV W B v x) : ∃ A0 c0 A3 c3, v = .agg #[.slice A0 x.f0.length c0, .int .i64 x.f1, .int .i64 x.f2, .slice A3 x.f3.length c3, .bool x.f4, .int .i64 x.f5] ∧ Kd.V kL 28 W 0 (fun k => B ≤ k) (.slice A0 x.f0.length c0) x.f0 ∧ Kd.V k39 39 W 0 (fun k => B ≤ k) (.slice A3 x.f3.length c3) x.f3 := by
  obtain ⟨vo, vi, rfl, hO, hI⟩ := h
  obtain ⟨A0, c0, rfl⟩ := Kd.V_slice hO
  obtain ⟨A3, c3, rfl⟩ := Kd.V_slice hI
  exact ⟨A0, c0, A3, c3, rfl, hO, hI⟩
set_option maxHeartbeats 16000000 in
set_option maxRecDepth 100000 in
theorem pollCh0 (w W : World) (g : Nat) (vo0 vi0 : Value) (x0 : S61) (vo1 vi1 : Value) (x1 : S61) (w0 w1 : Value) (l0 l1 : List S83) (p0 p1 : Value) (r0 r1 : List S39) (now : Int) (h : Chan w W g vo0 vi0 x0 vo1 vi1 x1 w0 w1 l0 l1 p0 p1 r0 r1 now) (hl : x0.f3.length ≤ 1000000) (hw : l1.length ≤ 1000000) (x : S61) (l : List S83) (r : Int) (heq : pollF x0 now = (x, l, r)) (hll : l.length ≤ 2) :
    Calls Try.prog 36 #[.pointer (some ⟨g, 0, none⟩), .int .i64 0] W fun e W' => (r ≠ 0 ∧ e = .returned (.bool false) ∧ Below W.heap.size W W') ∨ (r = 0 ∧ e = .returned (.bool true) ∧ ∃ vo vi wv, Chan w W' g vo vi x vo1 vi1 x1 w0 wv l0 (l1 ++ l) p0 p1 r0 r1 now) := by
  obtain ⟨AO, cO, hvo⟩ := Kd.V_slice h.o0
  obtain ⟨AI, cI, hvi⟩ := Kd.V_slice h.i0
  subst hvo hvi
  have C := Lib.hid h; have HL := Lib.hid hl; have HW := Lib.hid hw; have HQ := Lib.hid heq; have HLL := Lib.hid hll
  clear h hl hw heq hll
  go_enter Try.func36, Try.ntmps36
  go_wp2_with fail
  have HWS := Lib.hid (show Below W.heap.size W W.drew from below_drew (Below.refl _ _))
  have CD := Lib.hid (C.out.below (below_drew (Below.refl _ _)))
  refine start_ (n := 19) (S := fun w' => w'.cell? ⟨g, 0, none⟩ = some (.slice AO x0.f0.length cO) ∧ w'.cell? ⟨g, 1, none⟩ = some (.int .i64 x0.f1) ∧ w'.cell? ⟨g, 2, none⟩ = some (.int .i64 x0.f2) ∧ w'.cell? ⟨g, 3, none⟩ = some (.slice AI x0.f3.length cI) ∧ w'.cell? ⟨g, 4, none⟩ = some (.bool x0.f4) ∧ w'.cell? ⟨g, 5, none⟩ = some (.int .i64 x0.f5) ∧ w'.cell? ⟨g, 16, none⟩ = some (.int .i64 now)) (ds := [16]) #[false, false, false, false, false, false, false, false, false, false, false, false, false, false, false, false, false, false, false] (by kernel_rfl) rfl rfl ⟨CD.out.blk.c0, CD.out.blk.c1, CD.out.blk.c2, CD.out.blk.c3, CD.out.blk.c4, CD.out.blk.c5, CD.out.blk.c16⟩ (fun hHeld => ?_)
  generalize W.drew = wd at CD HWS hHeld ⊢
  refine pure_ (i := 0) (N := some 9) (v := ?_) (a' := ?_) #[true, false, false, false, false, false, false, false, false, false, false, false, false, false, false, false, false, false, false] rfl rfl (by kernel_rfl) (fun _ _ _ h => h) (Or.inl ⟨by rfl, ?_⟩) ?_ ?_
  rotate_left
  · intro w'
    go_simp
    with_reducible rfl
  rotate_left
  · simp only [Act.put, List.setIfInBounds_toArray, List.set_cons_zero, List.set_cons_succ, i64_w, i32_w]
    rfl
  refine pure_ (i := 1) (N := some 10) (v := ?_) (a' := ?_) #[true, true, false, false, false, false, false, false, false, false, false, false, false, false, false, false, false, false, false] rfl rfl (by kernel_rfl) (fun _ _ _ h => h) (Or.inl ⟨by rfl, ?_⟩) ?_ ?_
  rotate_left
  · intro w'
    go_simp
    with_reducible rfl
  rotate_left
  · simp only [Act.put, List.setIfInBounds_toArray, List.set_cons_zero, List.set_cons_succ, i64_w, i32_w]
    rfl
  refine pure_ (i := 2) (N := some 11) (v := ?_) (a' := ?_) #[true, true, true, false, false, false, false, false, false, false, false, false, false, false, false, false, false, false, false] rfl rfl (by kernel_rfl) (fun _ _ _ h => h) (Or.inl ⟨by rfl, ?_⟩) ?_ ?_
  rotate_left
  · intro w'
    go_simp
    with_reducible rfl
  rotate_left
  · simp only [Act.put, List.setIfInBounds_toArray, List.set_cons_zero, List.set_cons_succ, i64_w, i32_w]
    rfl
  refine pure_ (i := 3) (N := some 12) (v := ?_) (a' := ?_) #[true, true, true, true, false, false, false, false, false, false, false, false, false, false, false, false, false, false, false] rfl rfl (by kernel_rfl) (fun _ _ _ h => h) (Or.inl ⟨by rfl, ?_⟩) ?_ ?_
  rotate_left
  · intro w'
    go_simp
    with_reducible rfl
  rotate_left
  · simp only [Act.put, List.setIfInBounds_toArray, List.set_cons_zero, List.set_cons_succ, i64_w, i32_w]
    rfl
  refine pure_ (i := 4) (N := some 13) (v := ?_) (a' := ?_) #[true, true, true, true, true, false, false, false, false, false, false, false, false, false, false, false, false, false, false] rfl rfl (by kernel_rfl) (fun _ _ _ h => h) (Or.inl ⟨by rfl, ?_⟩) ?_ ?_
  rotate_left
  · intro w'
    go_simp
    with_reducible rfl
  rotate_left
  · simp only [Act.put, List.setIfInBounds_toArray, List.set_cons_zero, List.set_cons_succ, i64_w, i32_w]
    rfl
  refine pure_ (i := 6) (N := some 15) (v := ?_) (a' := ?_) #[true, true, true, true, true, false, true, false, false, false, false, false, false, false, false, false, false, false, false] rfl rfl (by kernel_rfl) (fun _ _ _ h => h) (Or.inl ⟨by rfl, ?_⟩) ?_ ?_
  rotate_left
  · intro w'
    go_simp
    with_reducible rfl
  rotate_left
  · simp only [Act.put, List.setIfInBounds_toArray, List.set_cons_zero, List.set_cons_succ, i64_w, i32_w]
    rfl
  refine pure_ (i := 7) (N := some 16) (v := ?_) (a' := ?_) #[true, true, true, true, true, false, true, true, false, false, false, false, false, false, false, false, false, false, false] rfl rfl (by kernel_rfl) (fun _ _ _ h => h) (Or.inl ⟨by rfl, ?_⟩) ?_ ?_
  rotate_left
  · intro w'
    go_simp
    with_reducible rfl
  rotate_left
  · simp only [Act.put, List.setIfInBounds_toArray, List.set_cons_zero, List.set_cons_succ, i64_w, i32_w]
    rfl
  refine pure_ (i := 8) (N := some 17) (v := ?_) (a' := ?_) #[true, true, true, true, true, false, true, true, true, false, false, false, false, false, false, false, false, false, false] rfl rfl (by kernel_rfl) (fun _ _ _ h => h) (Or.inl ⟨by rfl, ?_⟩) ?_ ?_
  rotate_left
  · intro w'
    go_simp
    with_reducible rfl
  rotate_left
  · simp only [Act.put, List.setIfInBounds_toArray, List.set_cons_zero, List.set_cons_succ, i64_w, i32_w]
    rfl
  refine take_ (i := 5) (N := some 14) (v := ?_) (a' := ?_) #[true, true, true, true, true, true, true, true, true, false, false, false, false, false, false, false, false, false, false] rfl rfl (by kernel_rfl) (fun _ _ _ h => h) (Or.inl ⟨by rfl, ?_⟩) hHeld ?_ ?_
  rotate_left
  · rintro w' ⟨s0, s1, s2, s3, s4, s5, s6⟩
    go_simp
    with_reducible rfl
  rotate_left
  · simp only [Act.put, List.setIfInBounds_toArray, List.set_cons_zero, List.set_cons_succ, i64_w, i32_w]
    rfl
  refine take_ (i := 9) (N := some 18) (v := ?_) (a' := ?_) #[true, true, true, true, true, true, true, true, true, true, false, false, false, false, false, false, false, false, false] rfl rfl (by kernel_rfl) (fun _ _ _ h => h) (Or.inl ⟨by rfl, ?_⟩) hHeld ?_ ?_
  rotate_left
  · rintro w' ⟨s0, s1, s2, s3, s4, s5, s6⟩
    go_simp
    with_reducible rfl
  rotate_left
  · simp only [Act.put, List.setIfInBounds_toArray, List.set_cons_zero, List.set_cons_succ, i64_w, i32_w]
    rfl
  refine join_ (σ := Nat × Option Addr × Nat × Option Addr × Nat × Value) 3 #[true, true, true, true, true, true, true, true, true, true, true, true, true, true, true, true, false, false, false] (fun s => [(19, .tuple #[.agg #[.slice s.2.1 x.f0.length s.2.2.1, .int .i64 x.f1, .int .i64 x.f2, .slice s.2.2.2.1 x.f3.length s.2.2.2.2.1, .bool x.f4, .int .i64 x.f5], s.2.2.2.2.2, .int .i64 r]), (5, .pointer (some ⟨s.1, 0, none⟩)), (8, .tuple #[.agg #[.slice s.2.1 x.f0.length s.2.2.1, .int .i64 x.f1, .int .i64 x.f2, .slice s.2.2.2.1 x.f3.length s.2.2.2.2.1, .bool x.f4, .int .i64 x.f5], s.2.2.2.2.2, .int .i64 r]), (20, .agg #[.slice s.2.1 x.f0.length s.2.2.1, .int .i64 x.f1, .int .i64 x.f2, .slice s.2.2.2.1 x.f3.length s.2.2.2.2.1, .bool x.f4, .int .i64 x.f5]), (21, s.2.2.2.2.2), (22, .int .i64 r)]) (fun s w' => Below wd.heap.size wd w' ∧ wd.heap.size ≤ s.1 ∧ EBlk w' s.1 61 (.slice none 0 0) 0 0 (.slice none 0 0) false 0 ∧ Kd.V kL 28 w' 0 (fun k => wd.heap.size ≤ k ∧ k ≠ s.1) (.slice s.2.1 x.f0.length s.2.2.1) x.f0 ∧ Kd.V k39 39 w' 0 (fun k => wd.heap.size ≤ k ∧ k ≠ s.1) (.slice s.2.2.2.1 x.f3.length s.2.2.2.2.1) x.f3 ∧ Kd.R k83 83 w' wd.heap.size (fun k => wd.heap.size ≤ k ∧ k ≠ s.1) s.2.2.2.2.2 l) ?_ ?_
  rotate_left
  · intro hCont
    refine two_ (i := 10) (j := 15) (Ni := some 19) (Nj := some 5) #[true, true, true, true, true, true, true, true, true, true, true, false, false, false, false, false, false, false, false] #[true, true, true, true, true, true, true, true, true, true, false, false, false, false, false, true, false, false, false] rfl rfl rfl rfl (by kernel_rfl) (by decide) (by decide) (fun K hK => ?_) (fun K hK => ?_)
    · skip
      refine goes_ Try.func44 (by kernel_rfl) rfl #[.agg #[.slice AO x0.f0.length cO, .int .i64 x0.f1, .int .i64 x0.f2, .slice AI x0.f3.length cI, .bool x0.f4, .int .i64 x0.f5], .int .i64 now] (by rfl) rfl rfl (by simp only [List.map_toArray, List.map_cons, List.map_nil]; rfl) ?_
      with_reducible refine (poll_lit HQ.out AO cO AI cI wd (Kd.V_reads' (CD.out.below (Below.refl _ _)).o0).2.2 (Kd.V_reads' (CD.out.below (Below.refl _ _)).i0).2.2 HL.out).mono ?_
      rintro e wx1 ⟨v, vl, rfl, hE, hV, hb⟩
      refine ⟨_, rfl, ?_⟩
      obtain ⟨A5, k5, A6, k6, rfl, hO, hI⟩ := six_read hE
      clear hE
      replace hV := Kd.R_mono (Kd.R_bound hV) (ok' := fun k => wd.heap.size ≤ k) (fun k hk => hk.2.1)
      have hB1 : Below wd.heap.size wd wx1 := hb
      clear hb
      refine hK.out _ _ ⟨(CD.out.below hB1).blk.c0, (CD.out.below hB1).blk.c1, (CD.out.below hB1).blk.c2, (CD.out.below hB1).blk.c3, (CD.out.below hB1).blk.c4, (CD.out.below hB1).blk.c5, (CD.out.below hB1).blk.c16⟩ (fun hHeld => ?_)
      clear hK K
      refine norm_ (a' := ?_) ?_ ?_
      rotate_left
      · show Act.put _ (some 19) _ = _
        simp only [Act.put, List.setIfInBounds_toArray, List.set_cons_zero, List.set_cons_succ, i64_w, i32_w]
        rfl
      refine pure_ (i := 11) (N := some 8) (v := ?_) (a' := ?_) #[true, true, true, true, true, true, true, true, true, true, true, true, false, false, false, false, false, false, false] rfl rfl (by kernel_rfl) (fun _ _ _ h => h) (Or.inl ⟨by rfl, ?_⟩) ?_ ?_
      rotate_left
      · intro w'
        go_simp
        with_reducible rfl
      rotate_left
      · simp only [Act.put, List.setIfInBounds_toArray, List.set_cons_zero, List.set_cons_succ, i64_w, i32_w]
        rfl
      refine pure_ (i := 12) (N := some 20) (v := ?_) (a' := ?_) #[true, true, true, true, true, true, true, true, true, true, true, true, true, false, false, false, false, false, false] rfl rfl (by kernel_rfl) (fun _ _ _ h => h) (Or.inl ⟨by rfl, ?_⟩) ?_ ?_
      rotate_left
      · intro w'
        go_simp
        with_reducible rfl
      rotate_left
      · simp only [Act.put, List.setIfInBounds_toArray, List.set_cons_zero, List.set_cons_succ, i64_w, i32_w]
        rfl
      refine pure_ (i := 13) (N := some 21) (v := ?_) (a' := ?_) #[true, true, true, true, true, true, true, true, true, true, true, true, true, true, false, false, false, false, false] rfl rfl (by kernel_rfl) (fun _ _ _ h => h) (Or.inl ⟨by rfl, ?_⟩) ?_ ?_
      rotate_left
      · intro w'
        go_simp
        with_reducible rfl
      rotate_left
      · simp only [Act.put, List.setIfInBounds_toArray, List.set_cons_zero, List.set_cons_succ, i64_w, i32_w]
        rfl
      refine pure_ (i := 14) (N := some 22) (v := ?_) (a' := ?_) #[true, true, true, true, true, true, true, true, true, true, true, true, true, true, true, false, false, false, false] rfl rfl (by kernel_rfl) (fun _ _ _ h => h) (Or.inl ⟨by rfl, ?_⟩) ?_ ?_
      rotate_left
      · intro w'
        go_simp
        with_reducible rfl
      rotate_left
      · simp only [Act.put, List.setIfInBounds_toArray, List.set_cons_zero, List.set_cons_succ, i64_w, i32_w]
        rfl
      refine one_ (i := 15) (N := some 5) #[true, true, true, true, true, true, true, true, true, true, true, true, true, true, true, true, false, false, false] rfl rfl (by kernel_rfl) (by decide) (fun K hK => ?_)
      refine value_ (w1 := ?_) (v := ?_) (by rfl) rfl ?_ ?_
      rotate_left 2
      · go_simp
        constructor
        all_goals rfl
      have hB2 : Below wd.heap.size wd (wx1.alloc (.cells #[.slice none 0 0, .int .i64 0, .int .i64 0, .slice none 0 0, .bool false, .int .i64 0] 61)) := al hB1 _
      have hZ := EBlk.new wx1 61 (.slice none 0 0) (.slice none 0 0) 0 0 0 false
      have htle : wd.heap.size ≤ wx1.heap.size := hB1.size
      replace hO := Kd.V_mono (Kd.V_alloc (Kd.V_bound hO) (.cells #[.slice none 0 0, .int .i64 0, .int .i64 0, .slice none 0 0, .bool false, .int .i64 0] 61)) (fun k hk => show wd.heap.size ≤ k ∧ k ≠ wx1.heap.size from ⟨hk.1, by have := hk.2; omega⟩)
      replace hI := Kd.V_mono (Kd.V_alloc (Kd.V_bound hI) (.cells #[.slice none 0 0, .int .i64 0, .int .i64 0, .slice none 0 0, .bool false, .int .i64 0] 61)) (fun k hk => show wd.heap.size ≤ k ∧ k ≠ wx1.heap.size from ⟨hk.1, by have := hk.2; omega⟩)
      replace hV := Kd.R_mono (Kd.R_alloc (Kd.R_bound hV) (.cells #[.slice none 0 0, .int .i64 0, .int .i64 0, .slice none 0 0, .bool false, .int .i64 0] 61)) (fun k hk => show wd.heap.size ≤ k ∧ k ≠ wx1.heap.size from ⟨hk.1, by have := hk.2.2.1; omega⟩)
      generalize wx1.alloc (.cells #[.slice none 0 0, .int .i64 0, .int .i64 0, .slice none 0 0, .bool false, .int .i64 0] 61) = wx2 at hB2 hZ hO hI hV ⊢
      refine hK.out _ _ ⟨(CD.out.below hB2).blk.c0, (CD.out.below hB2).blk.c1, (CD.out.below hB2).blk.c2, (CD.out.below hB2).blk.c3, (CD.out.below hB2).blk.c4, (CD.out.below hB2).blk.c5, (CD.out.below hB2).blk.c16⟩ (fun hHeld => ?_)
      clear hK K
      refine norm_ (a' := ?_) ?_ ?_
      rotate_left
      · show Act.put _ (some 5) _ = _
        simp only [Act.put, List.setIfInBounds_toArray, List.set_cons_zero, List.set_cons_succ, i64_w, i32_w]
        rfl
      exact norm_ (by simp only [putAll, Act.put, List.setIfInBounds_toArray, List.set_cons_zero, List.set_cons_succ] <;> rfl) (hCont (wx1.heap.size, A5, k5, A6, k6, vl) _ ⟨hB2, htle, hZ, hO, hI, hV⟩)
    · skip
      refine value_ (w1 := ?_) (v := ?_) (by rfl) rfl ?_ ?_
      rotate_left 2
      · go_simp
        constructor
        all_goals rfl
      have hB1 : Below wd.heap.size wd (wd.alloc (.cells #[.slice none 0 0, .int .i64 0, .int .i64 0, .slice none 0 0, .bool false, .int .i64 0] 61)) := below_one _ _
      have hZ := EBlk.new wd 61 (.slice none 0 0) (.slice none 0 0) 0 0 0 false
      have htle : wd.heap.size ≤ wd.heap.size := Nat.le_refl _
      generalize wd.alloc (.cells #[.slice none 0 0, .int .i64 0, .int .i64 0, .slice none 0 0, .bool false, .int .i64 0] 61) = wx1 at hB1 hZ ⊢
      refine hK.out _ _ ⟨(CD.out.below hB1).blk.c0, (CD.out.below hB1).blk.c1, (CD.out.below hB1).blk.c2, (CD.out.below hB1).blk.c3, (CD.out.below hB1).blk.c4, (CD.out.below hB1).blk.c5, (CD.out.below hB1).blk.c16⟩ (fun hHeld => ?_)
      clear hK K
      refine norm_ (a' := ?_) ?_ ?_
      rotate_left
      · show Act.put _ (some 5) _ = _
        simp only [Act.put, List.setIfInBounds_toArray, List.set_cons_zero, List.set_cons_succ, i64_w, i32_w]
        rfl
      refine one_ (i := 10) (N := some 19) #[true, true, true, true, true, true, true, true, true, true, true, false, false, false, false, true, false, false, false] rfl rfl (by kernel_rfl) (by decide) (fun K hK => ?_)
      refine goes_ Try.func44 (by kernel_rfl) rfl #[.agg #[.slice AO x0.f0.length cO, .int .i64 x0.f1, .int .i64 x0.f2, .slice AI x0.f3.length cI, .bool x0.f4, .int .i64 x0.f5], .int .i64 now] (by rfl) rfl rfl (by simp only [List.map_toArray, List.map_cons, List.map_nil]; rfl) ?_
      with_reducible refine (poll_lit HQ.out AO cO AI cI wx1 (Kd.V_reads' (CD.out.below hB1).o0).2.2 (Kd.V_reads' (CD.out.below hB1).i0).2.2 HL.out).mono ?_
      rintro e wx2 ⟨v, vl, rfl, hE, hV, hb⟩
      refine ⟨_, rfl, ?_⟩
      obtain ⟨A5, k5, A6, k6, rfl, hO, hI⟩ := six_read hE
      clear hE
      replace hO := Kd.V_mono hO (ok' := fun k => wd.heap.size ≤ k ∧ k ≠ wd.heap.size) (fun k hk => show wd.heap.size ≤ k ∧ k ≠ wd.heap.size from ⟨by have := hB1.size; omega, by have := heap_lt hZ; omega⟩)
      replace hI := Kd.V_mono hI (ok' := fun k => wd.heap.size ≤ k ∧ k ≠ wd.heap.size) (fun k hk => show wd.heap.size ≤ k ∧ k ≠ wd.heap.size from ⟨by have := hB1.size; omega, by have := heap_lt hZ; omega⟩)
      replace hV := Kd.R_lower (Kd.R_mono (Kd.R_bound hV) (ok' := fun k => wd.heap.size ≤ k ∧ k ≠ wd.heap.size) (fun k hk => show wd.heap.size ≤ k ∧ k ≠ wd.heap.size from ⟨by have := hB1.size; have := hk.2.1; omega, by have := heap_lt hZ; have := hk.2.1; omega⟩)) hB1.size
      replace hZ := hZ.below hb
      have hB2 : Below wd.heap.size wd wx2 := bb hB1 hb
      clear hb
      refine hK.out _ _ ⟨(CD.out.below hB2).blk.c0, (CD.out.below hB2).blk.c1, (CD.out.below hB2).blk.c2, (CD.out.below hB2).blk.c3, (CD.out.below hB2).blk.c4, (CD.out.below hB2).blk.c5, (CD.out.below hB2).blk.c16⟩ (fun hHeld => ?_)
      clear hK K
      refine norm_ (a' := ?_) ?_ ?_
      rotate_left
      · show Act.put _ (some 19) _ = _
        simp only [Act.put, List.setIfInBounds_toArray, List.set_cons_zero, List.set_cons_succ, i64_w, i32_w]
        rfl
      refine pure_ (i := 11) (N := some 8) (v := ?_) (a' := ?_) #[true, true, true, true, true, true, true, true, true, true, true, true, false, false, false, true, false, false, false] rfl rfl (by kernel_rfl) (fun _ _ _ h => h) (Or.inl ⟨by rfl, ?_⟩) ?_ ?_
      rotate_left
      · intro w'
        go_simp
        with_reducible rfl
      rotate_left
      · simp only [Act.put, List.setIfInBounds_toArray, List.set_cons_zero, List.set_cons_succ, i64_w, i32_w]
        rfl
      refine pure_ (i := 12) (N := some 20) (v := ?_) (a' := ?_) #[true, true, true, true, true, true, true, true, true, true, true, true, true, false, false, true, false, false, false] rfl rfl (by kernel_rfl) (fun _ _ _ h => h) (Or.inl ⟨by rfl, ?_⟩) ?_ ?_
      rotate_left
      · intro w'
        go_simp
        with_reducible rfl
      rotate_left
      · simp only [Act.put, List.setIfInBounds_toArray, List.set_cons_zero, List.set_cons_succ, i64_w, i32_w]
        rfl
      refine pure_ (i := 13) (N := some 21) (v := ?_) (a' := ?_) #[true, true, true, true, true, true, true, true, true, true, true, true, true, true, false, true, false, false, false] rfl rfl (by kernel_rfl) (fun _ _ _ h => h) (Or.inl ⟨by rfl, ?_⟩) ?_ ?_
      rotate_left
      · intro w'
        go_simp
        with_reducible rfl
      rotate_left
      · simp only [Act.put, List.setIfInBounds_toArray, List.set_cons_zero, List.set_cons_succ, i64_w, i32_w]
        rfl
      refine pure_ (i := 14) (N := some 22) (v := ?_) (a' := ?_) #[true, true, true, true, true, true, true, true, true, true, true, true, true, true, true, true, false, false, false] rfl rfl (by kernel_rfl) (fun _ _ _ h => h) (Or.inl ⟨by rfl, ?_⟩) ?_ ?_
      rotate_left
      · intro w'
        go_simp
        with_reducible rfl
      rotate_left
      · simp only [Act.put, List.setIfInBounds_toArray, List.set_cons_zero, List.set_cons_succ, i64_w, i32_w]
        rfl
      exact norm_ (by simp only [putAll, Act.put, List.setIfInBounds_toArray, List.set_cons_zero, List.set_cons_succ] <;> rfl) (hCont (wd.heap.size, A5, k5, A6, k6, vl) _ ⟨hB2, htle, hZ, hO, hI, hV⟩)
  rintro ⟨t, A5, k5, A6, k6, vl⟩ w3 ⟨hB, htle, hZ, hO, hI, hV⟩
  have hHeld : w3.cell? ⟨g, 0, none⟩ = some (.slice AO x0.f0.length cO) ∧ w3.cell? ⟨g, 1, none⟩ = some (.int .i64 x0.f1) ∧ w3.cell? ⟨g, 2, none⟩ = some (.int .i64 x0.f2) ∧ w3.cell? ⟨g, 3, none⟩ = some (.slice AI x0.f3.length cI) ∧ w3.cell? ⟨g, 4, none⟩ = some (.bool x0.f4) ∧ w3.cell? ⟨g, 5, none⟩ = some (.int .i64 x0.f5) ∧ w3.cell? ⟨g, 16, none⟩ = some (.int .i64 now) := ⟨(CD.out.below hB).blk.c0, (CD.out.below hB).blk.c1, (CD.out.below hB).blk.c2, (CD.out.below hB).blk.c3, (CD.out.below hB).blk.c4, (CD.out.below hB).blk.c5, (CD.out.below hB).blk.c16⟩
  refine norm_ (a' := ?_) ?_ ?_
  rotate_left
  · simp only [putAll, Act.put, List.setIfInBounds_toArray, List.set_cons_zero, List.set_cons_succ]
    rfl
  refine last_ (i := 16) (N := none) #[true, true, true, true, true, true, true, true, true, true, true, true, true, true, true, true, true, false, false] rfl rfl (by kernel_rfl) (by decide) (fun K hK => ?_)
  have z0 := hZ.c0; have z1 := hZ.c1; have z2 := hZ.c2; have z3 := hZ.c3; have z4 := hZ.c4; have z5 := hZ.c5; have y := blk_frozen hZ
  refine skip_ (w1 := ?_) (by rfl) rfl ?_ ?_
  rotate_left
  · go_simp
    rfl
  obtain ⟨w4, hw9, Z9, F9⟩ := six hZ (.slice A5 x.f0.length k5) x.f1 x.f2 (.slice A6 x.f3.length k6) x.f4 x.f5
  rw [← hw9]
  clear hw9 z0 z1 z2 z3 z4 z5 y
  refine hK.out _ _ ?_
  clear hK K
  refine pure_ (i := 17) (N := some 6) (v := ?_) (a' := ?_) #[true, true, true, true, true, true, true, true, true, true, true, true, true, true, true, true, true, true, false] rfl rfl (by kernel_rfl) (fun _ _ _ h => h) (Or.inl ⟨by rfl, ?_⟩) ?_ ?_
  rotate_left
  · intro w'
    go_simp
    with_reducible rfl
  rotate_left
  · simp only [Act.put, List.setIfInBounds_toArray, List.set_cons_zero, List.set_cons_succ, i64_w, i32_w]
    rfl
  refine pure_ (i := 18) (N := some 7) (v := ?_) (a' := ?_) #[true, true, true, true, true, true, true, true, true, true, true, true, true, true, true, true, true, true, true] rfl rfl (by kernel_rfl) (fun _ _ _ h => h) (Or.inl ⟨by rfl, ?_⟩) ?_ ?_
  rotate_left
  · intro w'
    go_simp
    with_reducible rfl
  rotate_left
  · simp only [Act.put, List.setIfInBounds_toArray, List.set_cons_zero, List.set_cons_succ, i64_w, i32_w]
    rfl
  refine done_ (by kernel_rfl) ?_

  have hB4 : Below wd.heap.size wd w4 := Fr.below F9 hB (Nat.le_refl _) (fun k hk => by omega)
  have C4 := Lib.hid (CD.out.below hB4)
  have O4 := Lib.hid (Kd.V_mono (Kd.V_step hO (fun k hk hlt => F9.same k hlt hk.2)) (fun k hk => CD.out.fresh hk.1))
  have I4 := Lib.hid (Kd.V_mono (Kd.V_step hI (fun k hk hlt => F9.same k hlt hk.2)) (fun k hk => CD.out.fresh hk.1))
  have V4 := Lib.hid (Kd.R_step hV (fun k hk hlt => F9.same k hlt hk.2))
  have Z4 := Lib.hid Z9
  have B4 := Lib.hid (bb HWS.out hB4)
  have TL := Lib.hid htle
  clear hO hI hV F9 hB hB4 hZ Z9 htle hHeld HQ
  by_cases hr : r = 0
  · subst hr
    go_wp2_with fail
    replace C4 := Lib.hid (C4.out.below (below_drew (Below.refl _ _))); replace O4 := Lib.hid (Kd.V_drew O4.out); replace I4 := Lib.hid (Kd.V_drew I4.out); replace V4 := Lib.hid (Kd.R_drew V4.out); replace Z4 := Lib.hid (Z4.out.below (below_drew (Below.refl _ _)))
    refine start_ (n := 7) (S := fun w' => w'.cell? ⟨t, 0, none⟩ = some (.slice A5 x.f0.length k5) ∧ w'.cell? ⟨t, 1, none⟩ = some (.int .i64 x.f1) ∧ w'.cell? ⟨t, 2, none⟩ = some (.int .i64 x.f2) ∧ w'.cell? ⟨t, 3, none⟩ = some (.slice A6 x.f3.length k6) ∧ w'.cell? ⟨t, 4, none⟩ = some (.bool x.f4) ∧ w'.cell? ⟨t, 5, none⟩ = some (.int .i64 x.f5)) (ds := [6]) #[false, false, false, false, false, false, false] (by kernel_rfl) rfl rfl ⟨Z4.out.c0, Z4.out.c1, Z4.out.c2, Z4.out.c3, Z4.out.c4, Z4.out.c5⟩ (fun hHeld => ?_)
    generalize w4.drew = w5 at C4 O4 I4 V4 Z4 hHeld ⊢
    refine pure_ (i := 0) (N := some 25) (v := ?_) (a' := ?_) #[true, false, false, false, false, false, false] rfl rfl (by kernel_rfl) (fun _ _ _ h => h) (Or.inl ⟨by rfl, ?_⟩) ?_ ?_
    rotate_left
    · intro w'
      go_simp
      with_reducible rfl
    rotate_left
    · simp only [Act.put, List.setIfInBounds_toArray, List.set_cons_zero, List.set_cons_succ, i64_w, i32_w]
      rfl
    refine pure_ (i := 1) (N := some 26) (v := ?_) (a' := ?_) #[true, true, false, false, false, false, false] rfl rfl (by kernel_rfl) (fun _ _ _ h => h) (Or.inl ⟨by rfl, ?_⟩) ?_ ?_
    rotate_left
    · intro w'
      go_simp
      with_reducible rfl
    rotate_left
    · simp only [Act.put, List.setIfInBounds_toArray, List.set_cons_zero, List.set_cons_succ, i64_w, i32_w]
      rfl
    refine pure_ (i := 3) (N := some 28) (v := ?_) (a' := ?_) #[true, true, false, true, false, false, false] rfl rfl (by kernel_rfl) (fun _ _ _ h => h) (Or.inl ⟨by rfl, ?_⟩) ?_ ?_
    rotate_left
    · intro w'
      go_simp
      with_reducible rfl
    rotate_left
    · simp only [Act.put, List.setIfInBounds_toArray, List.set_cons_zero, List.set_cons_succ, i64_w, i32_w]
      rfl
    refine pure_ (i := 4) (N := some 29) (v := ?_) (a' := ?_) #[true, true, false, true, true, false, false] rfl rfl (by kernel_rfl) (fun _ _ _ h => h) (Or.inl ⟨by rfl, ?_⟩) ?_ ?_
    rotate_left
    · intro w'
      go_simp
      with_reducible rfl
    rotate_left
    · simp only [Act.put, List.setIfInBounds_toArray, List.set_cons_zero, List.set_cons_succ, i64_w, i32_w]
      rfl
    refine take_ (i := 2) (N := some 27) (v := ?_) (a' := ?_) #[true, true, true, true, true, false, false] rfl rfl (by kernel_rfl) (fun _ _ _ h => h) (Or.inl ⟨by rfl, ?_⟩) hHeld ?_ ?_
    rotate_left
    · rintro w' ⟨s0, s1, s2, s3, s4, s5⟩
      go_simp
      with_reducible rfl
    rotate_left
    · simp only [Act.put, List.setIfInBounds_toArray, List.set_cons_zero, List.set_cons_succ, i64_w, i32_w]
      rfl
    refine pure_ (i := 5) (N := some 30) (v := ?_) (a' := ?_) #[true, true, true, true, true, true, false] rfl rfl (by kernel_rfl) (fun _ _ _ h => h) (Or.inl ⟨by rfl, ?_⟩) ?_ ?_
    rotate_left
    · intro w'
      go_simp
      with_reducible rfl
    rotate_left
    · simp only [Act.put, List.setIfInBounds_toArray, List.set_cons_zero, List.set_cons_succ, i64_w, i32_w]
      rfl
    refine last_ (i := 6) (N := none) #[true, true, true, true, true, true, true] rfl rfl (by kernel_rfl) (by decide) (fun K hK => ?_)
    have z0 := C4.out.blk.c0; have z1 := C4.out.blk.c1; have z2 := C4.out.blk.c2; have z3 := C4.out.blk.c3; have z4 := C4.out.blk.c4; have z5 := C4.out.blk.c5; have y := blk_frozen C4.out.blk
    refine skip_ (w1 := ?_) (by rfl) rfl ?_ ?_
    rotate_left
    · go_simp
      rfl
    obtain ⟨w6, hw9, hB9, F9⟩ := C4.out.blk.end0 (.slice A5 x.f0.length k5) (.slice A6 x.f3.length k6) x
    rw [← hw9]
    clear hw9 z0 z1 z2 z3 z4 z5 y
    refine hK.out _ _ ?_
    clear hK K
    refine done_ (by kernel_rfl) ?_

    have C6 := Lib.hid (C4.out.set0 F9 hB9 O4.out I4.out)
    have gne : ∀ k, (wd.heap.size ≤ k ∧ k ≠ t) → k ≠ g := fun k hk e => by have := heap_lt CD.out.blk; omega
    have V6 := Lib.hid (Kd.R_step V4.out (fun k hk hlt => F9.same k hlt (gne k hk)))
    have fr := fun k (hk : wd.heap.size ≤ k ∧ k ≠ t) => CD.out.fresh hk.1
    have FRS := Lib.hid fr
    clear C4 O4 I4 V4 Z4 F9 hB9 gne fr hHeld
    go_wp2_with fail
    replace C6 := Lib.hid (C6.out.below (below_drew (Below.refl _ _))); replace V6 := Lib.hid (Kd.R_drew V6.out)
    have hw1 := wr1; have hw0 := wr0
    refine start_ (n := 16) (S := fun w' => w'.cell? ⟨g, 13, none⟩ = some w1) (ds := [15]) #[false, false, false, false, false, false, false, false, false, false, false, false, false, false, false, false] (by kernel_rfl) rfl rfl (C6.out.blk.c13) (fun hHeld => ?_)
    generalize w6.drew = w7 at C6 V6 hHeld ⊢
    refine pure_ (i := 0) (N := some 31) (v := ?_) (a' := ?_) #[true, false, false, false, false, false, false, false, false, false, false, false, false, false, false, false] rfl rfl (by kernel_rfl) (fun _ _ _ h => h) (Or.inl ⟨by rfl, ?_⟩) ?_ ?_
    rotate_left
    · intro w'
      go_simp
      with_reducible rfl
    rotate_left
    · simp only [Act.put, List.setIfInBounds_toArray, List.set_cons_zero, List.set_cons_succ, i64_w, i32_w]
      rfl
    refine pure_ (i := 1) (N := some 32) (v := ?_) (a' := ?_) #[true, true, false, false, false, false, false, false, false, false, false, false, false, false, false, false] rfl rfl (by kernel_rfl) (fun _ _ _ h => h) (Or.inl ⟨by rfl, ?_⟩) ?_ ?_
    rotate_left
    · intro w'
      go_simp
      with_reducible rfl
    rotate_left
    · simp only [Act.put, List.setIfInBounds_toArray, List.set_cons_zero, List.set_cons_succ, i64_w, i32_w]
      rfl
    refine pure_ (i := 2) (N := some 33) (v := ?_) (a' := ?_) #[true, true, true, false, false, false, false, false, false, false, false, false, false, false, false, false] rfl rfl (by kernel_rfl) (fun _ _ _ h => h) (Or.inl ⟨by rfl, ?_⟩) ?_ ?_
    rotate_left
    · intro w'
      go_simp
      with_reducible rfl
    rotate_left
    · simp only [Act.put, List.setIfInBounds_toArray, List.set_cons_zero, List.set_cons_succ, i64_w, i32_w]
      rfl
    refine pure_ (i := 3) (N := some 34) (v := ?_) (a' := ?_) #[true, true, true, true, false, false, false, false, false, false, false, false, false, false, false, false] rfl rfl (by kernel_rfl) (fun _ _ _ h => h) (Or.inl ⟨by rfl, ?_⟩) ?_ ?_
    rotate_left
    · intro w'
      go_simp
      with_reducible rfl
    rotate_left
    · simp only [Act.put, List.setIfInBounds_toArray, List.set_cons_zero, List.set_cons_succ, i64_w, i32_w]
      rfl
    refine pure_ (i := 4) (N := some 35) (v := ?_) (a' := ?_) #[true, true, true, true, true, false, false, false, false, false, false, false, false, false, false, false] rfl rfl (by kernel_rfl) (fun _ _ _ h => h) (Or.inl ⟨by rfl, ?_⟩) ?_ ?_
    rotate_left
    · intro w'
      go_simp
      with_reducible rfl
    rotate_left
    · simp only [Act.put, List.setIfInBounds_toArray, List.set_cons_zero, List.set_cons_succ, i64_w, i32_w]
      rfl
    refine pure_ (i := 5) (N := some 36) (v := ?_) (a' := ?_) #[true, true, true, true, true, true, false, false, false, false, false, false, false, false, false, false] rfl rfl (by kernel_rfl) (fun _ _ _ h => h) (Or.inl ⟨by rfl, ?_⟩) ?_ ?_
    rotate_left
    · intro w'
      go_simp
      with_reducible rfl
    rotate_left
    · simp only [Act.put, List.setIfInBounds_toArray, List.set_cons_zero, List.set_cons_succ, i64_w, i32_w]
      rfl
    refine pure_ (i := 6) (N := some 37) (v := ?_) (a' := ?_) #[true, true, true, true, true, true, true, false, false, false, false, false, false, false, false, false] rfl rfl (by kernel_rfl) (fun _ _ _ h => h) (Or.inl ⟨by rfl, ?_⟩) ?_ ?_
    rotate_left
    · intro w'
      go_simp
      with_reducible rfl
    rotate_left
    · simp only [Act.put, List.setIfInBounds_toArray, List.set_cons_zero, List.set_cons_succ, i64_w, i32_w]
      rfl
    refine pure_ (i := 7) (N := some 38) (v := ?_) (a' := ?_) #[true, true, true, true, true, true, true, true, false, false, false, false, false, false, false, false] rfl rfl (by kernel_rfl) (fun _ _ _ h => h) (Or.inl ⟨by rfl, ?_⟩) ?_ ?_
    rotate_left
    · intro w'
      go_simp
      with_reducible rfl
    rotate_left
    · simp only [Act.put, List.setIfInBounds_toArray, List.set_cons_zero, List.set_cons_succ, i64_w, i32_w]
      rfl
    refine pure_ (i := 8) (N := some 39) (v := ?_) (a' := ?_) #[true, true, true, true, true, true, true, true, true, false, false, false, false, false, false, false] rfl rfl (by kernel_rfl) (fun _ _ _ h => h) (Or.inl ⟨by rfl, ?_⟩) ?_ ?_
    rotate_left
    · intro w'
      go_simp
      with_reducible rfl
    rotate_left
    · simp only [Act.put, List.setIfInBounds_toArray, List.set_cons_zero, List.set_cons_succ, i64_w, i32_w]
      rfl
    refine pure_ (i := 10) (N := some 41) (v := ?_) (a' := ?_) #[true, true, true, true, true, true, true, true, true, false, true, false, false, false, false, false] rfl rfl (by kernel_rfl) (fun _ _ _ h => h) (Or.inl ⟨by rfl, ?_⟩) ?_ ?_
    rotate_left
    · intro w'
      go_simp
      with_reducible rfl
    rotate_left
    · simp only [Act.put, List.setIfInBounds_toArray, List.set_cons_zero, List.set_cons_succ, i64_w, i32_w]
      rfl
    refine pure_ (i := 12) (N := some 43) (v := ?_) (a' := ?_) #[true, true, true, true, true, true, true, true, true, false, true, false, true, false, false, false] rfl rfl (by kernel_rfl) (fun _ _ _ h => h) (Or.inl ⟨by rfl, ?_⟩) ?_ ?_
    rotate_left
    · intro w'
      go_simp
      with_reducible rfl
    rotate_left
    · simp only [Act.put, List.setIfInBounds_toArray, List.set_cons_zero, List.set_cons_succ, i64_w, i32_w]
      rfl
    refine pure_ (i := 13) (N := some 44) (v := ?_) (a' := ?_) #[true, true, true, true, true, true, true, true, true, false, true, false, true, true, false, false] rfl rfl (by kernel_rfl) (fun _ _ _ h => h) (Or.inl ⟨by rfl, ?_⟩) ?_ ?_
    rotate_left
    · intro w'
      go_simp
      with_reducible rfl
    rotate_left
    · simp only [Act.put, List.setIfInBounds_toArray, List.set_cons_zero, List.set_cons_succ, i64_w, i32_w]
      rfl
    refine take_ (i := 9) (N := some 40) (v := ?_) (a' := ?_) #[true, true, true, true, true, true, true, true, true, true, true, false, true, true, false, false] rfl rfl (by kernel_rfl) (fun _ _ _ h => h) (Or.inl ⟨by rfl, ?_⟩) hHeld ?_ ?_
    rotate_left
    · intro w' s0
      go_simp
      with_reducible rfl
    rotate_left
    · simp only [Act.put, List.setIfInBounds_toArray, List.set_cons_zero, List.set_cons_succ, i64_w, i32_w]
      rfl
    refine one_ (i := 11) (N := some 42) #[true, true, true, true, true, true, true, true, true, true, true, true, true, true, false, false] rfl rfl (by kernel_rfl) (by decide) (fun K hK => ?_)
    obtain ⟨Av, kv, hvl, hvle, hrr⟩ := OwnRow.reads V6.out.2
    refine Kd.R_append_rows_step (Rr := k83.M w7 w.heap.size (fun k => wd.heap.size ≤ k ∧ k ≠ t)) k83 (w0 := w) w.heap.size (by rfl) (.tmp 40) (.tmp 41) 65 83 (.agg #[.int .i64 0, .bool false, .slice none 0 0]) 40 (by rfl) Try.underlying65 info83 rfl (by decide) (by decide) w1 l1 l Av l.length kv (fun k => k ≠ g ∧ some k ≠ w0.ownBlock ∧ some k ≠ p0.ownBlock ∧ some k ≠ p1.ownBlock) (fun k => wd.heap.size ≤ k ∧ k ≠ t) (by rfl) (by rw [← hvl]; rfl) C6.out.ww1 (hrr.imp_ (Below.refl _ _) (fun _ _ hp => k83.M_lower CD.out.low.size (k83.M_mono (fun _ hk => hk.1) hp))) (fun _ _ hp => hp) (fun k hk => ⟨⟨(FRS.out k hk).1, (FRS.out k hk).2.1, (FRS.out k hk).2.2.2⟩, (FRS.out k hk).2.2.1⟩) (fun k hk => ⟨(C6.out.fresh hk).1, (C6.out.fresh hk).2.1, (C6.out.fresh hk).2.2.2⟩) C6.out.low C6.out.low.size (by have := HW.out; have := HLL.out; omega) ?_
    intro v8 w8 hR8 hb8 hg8 hat8
    obtain ⟨A8, k8, hv8⟩ := Kd.R_slice hR8
    subst hv8
    have hlen : (l1 ++ l).length = l1.length + l.length := List.length_append
    simp only [hlen] at hR8 hg8 hat8 ⊢
    clear hlen
    refine hK.out _ _ ((show ChB w8 g _ _ _ _ _ _ w0 w1 p0 p1 now from blk_grown C6.out.blk hg8 (fun e => (C6.out.ww1.1 g e.symm).1 rfl)).c13) (fun hHeld => ?_)
    clear hK K
    refine norm_ (a' := ?_) ?_ ?_
    rotate_left
    · show Act.put _ (some 42) _ = _
      simp only [Act.put, List.setIfInBounds_toArray, List.set_cons_zero, List.set_cons_succ, i64_w, i32_w]
      rfl
    refine pure_ (i := 14) (N := some 45) (v := ?_) (a' := ?_) #[true, true, true, true, true, true, true, true, true, true, true, true, true, true, true, false] rfl rfl (by kernel_rfl) (fun _ _ _ h => h) (Or.inl ⟨by rfl, ?_⟩) ?_ ?_
    rotate_left
    · intro w'
      go_simp
      with_reducible rfl
    rotate_left
    · simp only [Act.put, List.setIfInBounds_toArray, List.set_cons_zero, List.set_cons_succ, i64_w, i32_w]
      rfl
    refine last_ (i := 15) (N := none) #[true, true, true, true, true, true, true, true, true, true, true, true, true, true, true, true] rfl rfl (by kernel_rfl) (by decide) (fun K hK => ?_)
    have hblk8 : ChB w8 g _ _ _ _ _ _ w0 w1 p0 p1 now := blk_grown C6.out.blk hg8 (fun e => (C6.out.ww1.1 g e.symm).1 rfl)
    have q1 := hblk8.c13; have q2 := blk_frozen hblk8 13
    refine skip_ (w1 := ?_) (by rfl) rfl ?_ ?_
    rotate_left
    · go_simp
      rfl
    refine hK.out _ _ ?_
    clear hK K
    refine done_ (by kernel_rfl) ?_

    have C9 := Lib.hid (C6.out.way1 hb8 hg8 hat8 hR8)
    clear hR8 hb8 hg8 hat8 hblk8 q1 q2 hrr
    go_wp2_with fail
    go_ret
    exact ⟨rfl, .slice A5 x.f0.length k5, .slice A6 x.f3.length k6, .slice A8 (l1.length + l.length) k8, C9.out⟩
  · have hz : (r != 0) = true := by simpa using hr
    have HRN := Lib.hid hr
    clear hr
    go_wp2_with fail
    go_ret
    exact Or.inl ⟨HRN.out, rfl, B4.out⟩
set_option maxHeartbeats 16000000 in
set_option maxRecDepth 100000 in
theorem pollCh1 (w W : World) (g : Nat) (vo0 vi0 : Value) (x0 : S61) (vo1 vi1 : Value) (x1 : S61) (w0 w1 : Value) (l0 l1 : List S83) (p0 p1 : Value) (r0 r1 : List S39) (now : Int) (h : Chan w W g vo0 vi0 x0 vo1 vi1 x1 w0 w1 l0 l1 p0 p1 r0 r1 now) (hl : x1.f3.length ≤ 1000000) (hw : l0.length ≤ 1000000) (x : S61) (l : List S83) (r : Int) (heq : pollF x1 now = (x, l, r)) (hll : l.length ≤ 2) :
    Calls Try.prog 36 #[.pointer (some ⟨g, 0, none⟩), .int .i64 1] W fun e W' => (r ≠ 0 ∧ e = .returned (.bool false) ∧ Below W.heap.size W W') ∨ (r = 0 ∧ e = .returned (.bool true) ∧ ∃ vo vi wv, Chan w W' g vo0 vi0 x0 vo vi x wv w1 (l0 ++ l) l1 p0 p1 r0 r1 now) := by
  obtain ⟨AO, cO, hvo⟩ := Kd.V_slice h.o1
  obtain ⟨AI, cI, hvi⟩ := Kd.V_slice h.i1
  subst hvo hvi
  have C := Lib.hid h; have HL := Lib.hid hl; have HW := Lib.hid hw; have HQ := Lib.hid heq; have HLL := Lib.hid hll
  clear h hl hw heq hll
  go_enter Try.func36, Try.ntmps36
  go_wp2_with fail
  have HWS := Lib.hid (show Below W.heap.size W W.drew from below_drew (Below.refl _ _))
  have CD := Lib.hid (C.out.below (below_drew (Below.refl _ _)))
  refine start_ (n := 19) (S := fun w' => w'.cell? ⟨g, 6, none⟩ = some (.slice AO x1.f0.length cO) ∧ w'.cell? ⟨g, 7, none⟩ = some (.int .i64 x1.f1) ∧ w'.cell? ⟨g, 8, none⟩ = some (.int .i64 x1.f2) ∧ w'.cell? ⟨g, 9, none⟩ = some (.slice AI x1.f3.length cI) ∧ w'.cell? ⟨g, 10, none⟩ = some (.bool x1.f4) ∧ w'.cell? ⟨g, 11, none⟩ = some (.int .i64 x1.f5) ∧ w'.cell? ⟨g, 16, none⟩ = some (.int .i64 now)) (ds := [16]) #[false, false, false, false, false, false, false, false, false, false, false, false, false, false, false, false, false, false, false] (by kernel_rfl) rfl rfl ⟨CD.out.blk.c6, CD.out.blk.c7, CD.out.blk.c8, CD.out.blk.c9, CD.out.blk.c10, CD.out.blk.c11, CD.out.blk.c16⟩ (fun hHeld => ?_)
  generalize W.drew = wd at CD HWS hHeld ⊢
  refine pure_ (i := 0) (N := some 9) (v := ?_) (a' := ?_) #[true, false, false, false, false, false, false, false, false, false, false, false, false, false, false, false, false, false, false] rfl rfl (by kernel_rfl) (fun _ _ _ h => h) (Or.inl ⟨by rfl, ?_⟩) ?_ ?_
  rotate_left
  · intro w'
    go_simp
    with_reducible rfl
  rotate_left
  · simp only [Act.put, List.setIfInBounds_toArray, List.set_cons_zero, List.set_cons_succ, i64_w, i32_w]
    rfl
  refine pure_ (i := 1) (N := some 10) (v := ?_) (a' := ?_) #[true, true, false, false, false, false, false, false, false, false, false, false, false, false, false, false, false, false, false] rfl rfl (by kernel_rfl) (fun _ _ _ h => h) (Or.inl ⟨by rfl, ?_⟩) ?_ ?_
  rotate_left
  · intro w'
    go_simp
    with_reducible rfl
  rotate_left
  · simp only [Act.put, List.setIfInBounds_toArray, List.set_cons_zero, List.set_cons_succ, i64_w, i32_w]
    rfl
  refine pure_ (i := 2) (N := some 11) (v := ?_) (a' := ?_) #[true, true, true, false, false, false, false, false, false, false, false, false, false, false, false, false, false, false, false] rfl rfl (by kernel_rfl) (fun _ _ _ h => h) (Or.inl ⟨by rfl, ?_⟩) ?_ ?_
  rotate_left
  · intro w'
    go_simp
    with_reducible rfl
  rotate_left
  · simp only [Act.put, List.setIfInBounds_toArray, List.set_cons_zero, List.set_cons_succ, i64_w, i32_w]
    rfl
  refine pure_ (i := 3) (N := some 12) (v := ?_) (a' := ?_) #[true, true, true, true, false, false, false, false, false, false, false, false, false, false, false, false, false, false, false] rfl rfl (by kernel_rfl) (fun _ _ _ h => h) (Or.inl ⟨by rfl, ?_⟩) ?_ ?_
  rotate_left
  · intro w'
    go_simp
    with_reducible rfl
  rotate_left
  · simp only [Act.put, List.setIfInBounds_toArray, List.set_cons_zero, List.set_cons_succ, i64_w, i32_w]
    rfl
  refine pure_ (i := 4) (N := some 13) (v := ?_) (a' := ?_) #[true, true, true, true, true, false, false, false, false, false, false, false, false, false, false, false, false, false, false] rfl rfl (by kernel_rfl) (fun _ _ _ h => h) (Or.inl ⟨by rfl, ?_⟩) ?_ ?_
  rotate_left
  · intro w'
    go_simp
    with_reducible rfl
  rotate_left
  · simp only [Act.put, List.setIfInBounds_toArray, List.set_cons_zero, List.set_cons_succ, i64_w, i32_w]
    rfl
  refine pure_ (i := 6) (N := some 15) (v := ?_) (a' := ?_) #[true, true, true, true, true, false, true, false, false, false, false, false, false, false, false, false, false, false, false] rfl rfl (by kernel_rfl) (fun _ _ _ h => h) (Or.inl ⟨by rfl, ?_⟩) ?_ ?_
  rotate_left
  · intro w'
    go_simp
    with_reducible rfl
  rotate_left
  · simp only [Act.put, List.setIfInBounds_toArray, List.set_cons_zero, List.set_cons_succ, i64_w, i32_w]
    rfl
  refine pure_ (i := 7) (N := some 16) (v := ?_) (a' := ?_) #[true, true, true, true, true, false, true, true, false, false, false, false, false, false, false, false, false, false, false] rfl rfl (by kernel_rfl) (fun _ _ _ h => h) (Or.inl ⟨by rfl, ?_⟩) ?_ ?_
  rotate_left
  · intro w'
    go_simp
    with_reducible rfl
  rotate_left
  · simp only [Act.put, List.setIfInBounds_toArray, List.set_cons_zero, List.set_cons_succ, i64_w, i32_w]
    rfl
  refine pure_ (i := 8) (N := some 17) (v := ?_) (a' := ?_) #[true, true, true, true, true, false, true, true, true, false, false, false, false, false, false, false, false, false, false] rfl rfl (by kernel_rfl) (fun _ _ _ h => h) (Or.inl ⟨by rfl, ?_⟩) ?_ ?_
  rotate_left
  · intro w'
    go_simp
    with_reducible rfl
  rotate_left
  · simp only [Act.put, List.setIfInBounds_toArray, List.set_cons_zero, List.set_cons_succ, i64_w, i32_w]
    rfl
  refine take_ (i := 5) (N := some 14) (v := ?_) (a' := ?_) #[true, true, true, true, true, true, true, true, true, false, false, false, false, false, false, false, false, false, false] rfl rfl (by kernel_rfl) (fun _ _ _ h => h) (Or.inl ⟨by rfl, ?_⟩) hHeld ?_ ?_
  rotate_left
  · rintro w' ⟨s0, s1, s2, s3, s4, s5, s6⟩
    go_simp
    with_reducible rfl
  rotate_left
  · simp only [Act.put, List.setIfInBounds_toArray, List.set_cons_zero, List.set_cons_succ, i64_w, i32_w]
    rfl
  refine take_ (i := 9) (N := some 18) (v := ?_) (a' := ?_) #[true, true, true, true, true, true, true, true, true, true, false, false, false, false, false, false, false, false, false] rfl rfl (by kernel_rfl) (fun _ _ _ h => h) (Or.inl ⟨by rfl, ?_⟩) hHeld ?_ ?_
  rotate_left
  · rintro w' ⟨s0, s1, s2, s3, s4, s5, s6⟩
    go_simp
    with_reducible rfl
  rotate_left
  · simp only [Act.put, List.setIfInBounds_toArray, List.set_cons_zero, List.set_cons_succ, i64_w, i32_w]
    rfl
  refine join_ (σ := Nat × Option Addr × Nat × Option Addr × Nat × Value) 3 #[true, true, true, true, true, true, true, true, true, true, true, true, true, true, true, true, false, false, false] (fun s => [(19, .tuple #[.agg #[.slice s.2.1 x.f0.length s.2.2.1, .int .i64 x.f1, .int .i64 x.f2, .slice s.2.2.2.1 x.f3.length s.2.2.2.2.1, .bool x.f4, .int .i64 x.f5], s.2.2.2.2.2, .int .i64 r]), (5, .pointer (some ⟨s.1, 0, none⟩)), (8, .tuple #[.agg #[.slice s.2.1 x.f0.length s.2.2.1, .int .i64 x.f1, .int .i64 x.f2, .slice s.2.2.2.1 x.f3.length s.2.2.2.2.1, .bool x.f4, .int .i64 x.f5], s.2.2.2.2.2, .int .i64 r]), (20, .agg #[.slice s.2.1 x.f0.length s.2.2.1, .int .i64 x.f1, .int .i64 x.f2, .slice s.2.2.2.1 x.f3.length s.2.2.2.2.1, .bool x.f4, .int .i64 x.f5]), (21, s.2.2.2.2.2), (22, .int .i64 r)]) (fun s w' => Below wd.heap.size wd w' ∧ wd.heap.size ≤ s.1 ∧ EBlk w' s.1 61 (.slice none 0 0) 0 0 (.slice none 0 0) false 0 ∧ Kd.V kL 28 w' 0 (fun k => wd.heap.size ≤ k ∧ k ≠ s.1) (.slice s.2.1 x.f0.length s.2.2.1) x.f0 ∧ Kd.V k39 39 w' 0 (fun k => wd.heap.size ≤ k ∧ k ≠ s.1) (.slice s.2.2.2.1 x.f3.length s.2.2.2.2.1) x.f3 ∧ Kd.R k83 83 w' wd.heap.size (fun k => wd.heap.size ≤ k ∧ k ≠ s.1) s.2.2.2.2.2 l) ?_ ?_
  rotate_left
  · intro hCont
    refine two_ (i := 10) (j := 15) (Ni := some 19) (Nj := some 5) #[true, true, true, true, true, true, true, true, true, true, true, false, false, false, false, false, false, false, false] #[true, true, true, true, true, true, true, true, true, true, false, false, false, false, false, true, false, false, false] rfl rfl rfl rfl (by kernel_rfl) (by decide) (by decide) (fun K hK => ?_) (fun K hK => ?_)
    · skip
      refine goes_ Try.func44 (by kernel_rfl) rfl #[.agg #[.slice AO x1.f0.length cO, .int .i64 x1.f1, .int .i64 x1.f2, .slice AI x1.f3.length cI, .bool x1.f4, .int .i64 x1.f5], .int .i64 now] (by rfl) rfl rfl (by simp only [List.map_toArray, List.map_cons, List.map_nil]; rfl) ?_
      with_reducible refine (poll_lit HQ.out AO cO AI cI wd (Kd.V_reads' (CD.out.below (Below.refl _ _)).o1).2.2 (Kd.V_reads' (CD.out.below (Below.refl _ _)).i1).2.2 HL.out).mono ?_
      rintro e wx1 ⟨v, vl, rfl, hE, hV, hb⟩
      refine ⟨_, rfl, ?_⟩
      obtain ⟨A5, k5, A6, k6, rfl, hO, hI⟩ := six_read hE
      clear hE
      replace hV := Kd.R_mono (Kd.R_bound hV) (ok' := fun k => wd.heap.size ≤ k) (fun k hk => hk.2.1)
      have hB1 : Below wd.heap.size wd wx1 := hb
      clear hb
      refine hK.out _ _ ⟨(CD.out.below hB1).blk.c6, (CD.out.below hB1).blk.c7, (CD.out.below hB1).blk.c8, (CD.out.below hB1).blk.c9, (CD.out.below hB1).blk.c10, (CD.out.below hB1).blk.c11, (CD.out.below hB1).blk.c16⟩ (fun hHeld => ?_)
      clear hK K
      refine norm_ (a' := ?_) ?_ ?_
      rotate_left
      · show Act.put _ (some 19) _ = _
        simp only [Act.put, List.setIfInBounds_toArray, List.set_cons_zero, List.set_cons_succ, i64_w, i32_w]
        rfl
      refine pure_ (i := 11) (N := some 8) (v := ?_) (a' := ?_) #[true, true, true, true, true, true, true, true, true, true, true, true, false, false, false, false, false, false, false] rfl rfl (by kernel_rfl) (fun _ _ _ h => h) (Or.inl ⟨by rfl, ?_⟩) ?_ ?_
      rotate_left
      · intro w'
        go_simp
        with_reducible rfl
      rotate_left
      · simp only [Act.put, List.setIfInBounds_toArray, List.set_cons_zero, List.set_cons_succ, i64_w, i32_w]
        rfl
      refine pure_ (i := 12) (N := some 20) (v := ?_) (a' := ?_) #[true, true, true, true, true, true, true, true, true, true, true, true, true, false, false, false, false, false, false] rfl rfl (by kernel_rfl) (fun _ _ _ h => h) (Or.inl ⟨by rfl, ?_⟩) ?_ ?_
      rotate_left
      · intro w'
        go_simp
        with_reducible rfl
      rotate_left
      · simp only [Act.put, List.setIfInBounds_toArray, List.set_cons_zero, List.set_cons_succ, i64_w, i32_w]
        rfl
      refine pure_ (i := 13) (N := some 21) (v := ?_) (a' := ?_) #[true, true, true, true, true, true, true, true, true, true, true, true, true, true, false, false, false, false, false] rfl rfl (by kernel_rfl) (fun _ _ _ h => h) (Or.inl ⟨by rfl, ?_⟩) ?_ ?_
      rotate_left
      · intro w'
        go_simp
        with_reducible rfl
      rotate_left
      · simp only [Act.put, List.setIfInBounds_toArray, List.set_cons_zero, List.set_cons_succ, i64_w, i32_w]
        rfl
      refine pure_ (i := 14) (N := some 22) (v := ?_) (a' := ?_) #[true, true, true, true, true, true, true, true, true, true, true, true, true, true, true, false, false, false, false] rfl rfl (by kernel_rfl) (fun _ _ _ h => h) (Or.inl ⟨by rfl, ?_⟩) ?_ ?_
      rotate_left
      · intro w'
        go_simp
        with_reducible rfl
      rotate_left
      · simp only [Act.put, List.setIfInBounds_toArray, List.set_cons_zero, List.set_cons_succ, i64_w, i32_w]
        rfl
      refine one_ (i := 15) (N := some 5) #[true, true, true, true, true, true, true, true, true, true, true, true, true, true, true, true, false, false, false] rfl rfl (by kernel_rfl) (by decide) (fun K hK => ?_)
      refine value_ (w1 := ?_) (v := ?_) (by rfl) rfl ?_ ?_
      rotate_left 2
      · go_simp
        constructor
        all_goals rfl
      have hB2 : Below wd.heap.size wd (wx1.alloc (.cells #[.slice none 0 0, .int .i64 0, .int .i64 0, .slice none 0 0, .bool false, .int .i64 0] 61)) := al hB1 _
      have hZ := EBlk.new wx1 61 (.slice none 0 0) (.slice none 0 0) 0 0 0 false
      have htle : wd.heap.size ≤ wx1.heap.size := hB1.size
      replace hO := Kd.V_mono (Kd.V_alloc (Kd.V_bound hO) (.cells #[.slice none 0 0, .int .i64 0, .int .i64 0, .slice none 0 0, .bool false, .int .i64 0] 61)) (fun k hk => show wd.heap.size ≤ k ∧ k ≠ wx1.heap.size from ⟨hk.1, by have := hk.2; omega⟩)
      replace hI := Kd.V_mono (Kd.V_alloc (Kd.V_bound hI) (.cells #[.slice none 0 0, .int .i64 0, .int .i64 0, .slice none 0 0, .bool false, .int .i64 0] 61)) (fun k hk => show wd.heap.size ≤ k ∧ k ≠ wx1.heap.size from ⟨hk.1, by have := hk.2; omega⟩)
      replace hV := Kd.R_mono (Kd.R_alloc (Kd.R_bound hV) (.cells #[.slice none 0 0, .int .i64 0, .int .i64 0, .slice none 0 0, .bool false, .int .i64 0] 61)) (fun k hk => show wd.heap.size ≤ k ∧ k ≠ wx1.heap.size from ⟨hk.1, by have := hk.2.2.1; omega⟩)
      generalize wx1.alloc (.cells #[.slice none 0 0, .int .i64 0, .int .i64 0, .slice none 0 0, .bool false, .int .i64 0] 61) = wx2 at hB2 hZ hO hI hV ⊢
      refine hK.out _ _ ⟨(CD.out.below hB2).blk.c6, (CD.out.below hB2).blk.c7, (CD.out.below hB2).blk.c8, (CD.out.below hB2).blk.c9, (CD.out.below hB2).blk.c10, (CD.out.below hB2).blk.c11, (CD.out.below hB2).blk.c16⟩ (fun hHeld => ?_)
      clear hK K
      refine norm_ (a' := ?_) ?_ ?_
      rotate_left
      · show Act.put _ (some 5) _ = _
        simp only [Act.put, List.setIfInBounds_toArray, List.set_cons_zero, List.set_cons_succ, i64_w, i32_w]
        rfl
      exact norm_ (by simp only [putAll, Act.put, List.setIfInBounds_toArray, List.set_cons_zero, List.set_cons_succ] <;> rfl) (hCont (wx1.heap.size, A5, k5, A6, k6, vl) _ ⟨hB2, htle, hZ, hO, hI, hV⟩)
    · skip
      refine value_ (w1 := ?_) (v := ?_) (by rfl) rfl ?_ ?_
      rotate_left 2
      · go_simp
        constructor
        all_goals rfl
      have hB1 : Below wd.heap.size wd (wd.alloc (.cells #[.slice none 0 0, .int .i64 0, .int .i64 0, .slice none 0 0, .bool false, .int .i64 0] 61)) := below_one _ _
      have hZ := EBlk.new wd 61 (.slice none 0 0) (.slice none 0 0) 0 0 0 false
      have htle : wd.heap.size ≤ wd.heap.size := Nat.le_refl _
      generalize wd.alloc (.cells #[.slice none 0 0, .int .i64 0, .int .i64 0, .slice none 0 0, .bool false, .int .i64 0] 61) = wx1 at hB1 hZ ⊢
      refine hK.out _ _ ⟨(CD.out.below hB1).blk.c6, (CD.out.below hB1).blk.c7, (CD.out.below hB1).blk.c8, (CD.out.below hB1).blk.c9, (CD.out.below hB1).blk.c10, (CD.out.below hB1).blk.c11, (CD.out.below hB1).blk.c16⟩ (fun hHeld => ?_)
      clear hK K
      refine norm_ (a' := ?_) ?_ ?_
      rotate_left
      · show Act.put _ (some 5) _ = _
        simp only [Act.put, List.setIfInBounds_toArray, List.set_cons_zero, List.set_cons_succ, i64_w, i32_w]
        rfl
      refine one_ (i := 10) (N := some 19) #[true, true, true, true, true, true, true, true, true, true, true, false, false, false, false, true, false, false, false] rfl rfl (by kernel_rfl) (by decide) (fun K hK => ?_)
      refine goes_ Try.func44 (by kernel_rfl) rfl #[.agg #[.slice AO x1.f0.length cO, .int .i64 x1.f1, .int .i64 x1.f2, .slice AI x1.f3.length cI, .bool x1.f4, .int .i64 x1.f5], .int .i64 now] (by rfl) rfl rfl (by simp only [List.map_toArray, List.map_cons, List.map_nil]; rfl) ?_
      with_reducible refine (poll_lit HQ.out AO cO AI cI wx1 (Kd.V_reads' (CD.out.below hB1).o1).2.2 (Kd.V_reads' (CD.out.below hB1).i1).2.2 HL.out).mono ?_
      rintro e wx2 ⟨v, vl, rfl, hE, hV, hb⟩
      refine ⟨_, rfl, ?_⟩
      obtain ⟨A5, k5, A6, k6, rfl, hO, hI⟩ := six_read hE
      clear hE
      replace hO := Kd.V_mono hO (ok' := fun k => wd.heap.size ≤ k ∧ k ≠ wd.heap.size) (fun k hk => show wd.heap.size ≤ k ∧ k ≠ wd.heap.size from ⟨by have := hB1.size; omega, by have := heap_lt hZ; omega⟩)
      replace hI := Kd.V_mono hI (ok' := fun k => wd.heap.size ≤ k ∧ k ≠ wd.heap.size) (fun k hk => show wd.heap.size ≤ k ∧ k ≠ wd.heap.size from ⟨by have := hB1.size; omega, by have := heap_lt hZ; omega⟩)
      replace hV := Kd.R_lower (Kd.R_mono (Kd.R_bound hV) (ok' := fun k => wd.heap.size ≤ k ∧ k ≠ wd.heap.size) (fun k hk => show wd.heap.size ≤ k ∧ k ≠ wd.heap.size from ⟨by have := hB1.size; have := hk.2.1; omega, by have := heap_lt hZ; have := hk.2.1; omega⟩)) hB1.size
      replace hZ := hZ.below hb
      have hB2 : Below wd.heap.size wd wx2 := bb hB1 hb
      clear hb
      refine hK.out _ _ ⟨(CD.out.below hB2).blk.c6, (CD.out.below hB2).blk.c7, (CD.out.below hB2).blk.c8, (CD.out.below hB2).blk.c9, (CD.out.below hB2).blk.c10, (CD.out.below hB2).blk.c11, (CD.out.below hB2).blk.c16⟩ (fun hHeld => ?_)
      clear hK K
      refine norm_ (a' := ?_) ?_ ?_
      rotate_left
      · show Act.put _ (some 19) _ = _
        simp only [Act.put, List.setIfInBounds_toArray, List.set_cons_zero, List.set_cons_succ, i64_w, i32_w]
        rfl
      refine pure_ (i := 11) (N := some 8) (v := ?_) (a' := ?_) #[true, true, true, true, true, true, true, true, true, true, true, true, false, false, false, true, false, false, false] rfl rfl (by kernel_rfl) (fun _ _ _ h => h) (Or.inl ⟨by rfl, ?_⟩) ?_ ?_
      rotate_left
      · intro w'
        go_simp
        with_reducible rfl
      rotate_left
      · simp only [Act.put, List.setIfInBounds_toArray, List.set_cons_zero, List.set_cons_succ, i64_w, i32_w]
        rfl
      refine pure_ (i := 12) (N := some 20) (v := ?_) (a' := ?_) #[true, true, true, true, true, true, true, true, true, true, true, true, true, false, false, true, false, false, false] rfl rfl (by kernel_rfl) (fun _ _ _ h => h) (Or.inl ⟨by rfl, ?_⟩) ?_ ?_
      rotate_left
      · intro w'
        go_simp
        with_reducible rfl
      rotate_left
      · simp only [Act.put, List.setIfInBounds_toArray, List.set_cons_zero, List.set_cons_succ, i64_w, i32_w]
        rfl
      refine pure_ (i := 13) (N := some 21) (v := ?_) (a' := ?_) #[true, true, true, true, true, true, true, true, true, true, true, true, true, true, false, true, false, false, false] rfl rfl (by kernel_rfl) (fun _ _ _ h => h) (Or.inl ⟨by rfl, ?_⟩) ?_ ?_
      rotate_left
      · intro w'
        go_simp
        with_reducible rfl
      rotate_left
      · simp only [Act.put, List.setIfInBounds_toArray, List.set_cons_zero, List.set_cons_succ, i64_w, i32_w]
        rfl
      refine pure_ (i := 14) (N := some 22) (v := ?_) (a' := ?_) #[true, true, true, true, true, true, true, true, true, true, true, true, true, true, true, true, false, false, false] rfl rfl (by kernel_rfl) (fun _ _ _ h => h) (Or.inl ⟨by rfl, ?_⟩) ?_ ?_
      rotate_left
      · intro w'
        go_simp
        with_reducible rfl
      rotate_left
      · simp only [Act.put, List.setIfInBounds_toArray, List.set_cons_zero, List.set_cons_succ, i64_w, i32_w]
        rfl
      exact norm_ (by simp only [putAll, Act.put, List.setIfInBounds_toArray, List.set_cons_zero, List.set_cons_succ] <;> rfl) (hCont (wd.heap.size, A5, k5, A6, k6, vl) _ ⟨hB2, htle, hZ, hO, hI, hV⟩)
  rintro ⟨t, A5, k5, A6, k6, vl⟩ w3 ⟨hB, htle, hZ, hO, hI, hV⟩
  have hHeld : w3.cell? ⟨g, 6, none⟩ = some (.slice AO x1.f0.length cO) ∧ w3.cell? ⟨g, 7, none⟩ = some (.int .i64 x1.f1) ∧ w3.cell? ⟨g, 8, none⟩ = some (.int .i64 x1.f2) ∧ w3.cell? ⟨g, 9, none⟩ = some (.slice AI x1.f3.length cI) ∧ w3.cell? ⟨g, 10, none⟩ = some (.bool x1.f4) ∧ w3.cell? ⟨g, 11, none⟩ = some (.int .i64 x1.f5) ∧ w3.cell? ⟨g, 16, none⟩ = some (.int .i64 now) := ⟨(CD.out.below hB).blk.c6, (CD.out.below hB).blk.c7, (CD.out.below hB).blk.c8, (CD.out.below hB).blk.c9, (CD.out.below hB).blk.c10, (CD.out.below hB).blk.c11, (CD.out.below hB).blk.c16⟩
  refine norm_ (a' := ?_) ?_ ?_
  rotate_left
  · simp only [putAll, Act.put, List.setIfInBounds_toArray, List.set_cons_zero, List.set_cons_succ]
    rfl
  refine last_ (i := 16) (N := none) #[true, true, true, true, true, true, true, true, true, true, true, true, true, true, true, true, true, false, false] rfl rfl (by kernel_rfl) (by decide) (fun K hK => ?_)
  have z0 := hZ.c0; have z1 := hZ.c1; have z2 := hZ.c2; have z3 := hZ.c3; have z4 := hZ.c4; have z5 := hZ.c5; have y := blk_frozen hZ
  refine skip_ (w1 := ?_) (by rfl) rfl ?_ ?_
  rotate_left
  · go_simp
    rfl
  obtain ⟨w4, hw9, Z9, F9⟩ := six hZ (.slice A5 x.f0.length k5) x.f1 x.f2 (.slice A6 x.f3.length k6) x.f4 x.f5
  rw [← hw9]
  clear hw9 z0 z1 z2 z3 z4 z5 y
  refine hK.out _ _ ?_
  clear hK K
  refine pure_ (i := 17) (N := some 6) (v := ?_) (a' := ?_) #[true, true, true, true, true, true, true, true, true, true, true, true, true, true, true, true, true, true, false] rfl rfl (by kernel_rfl) (fun _ _ _ h => h) (Or.inl ⟨by rfl, ?_⟩) ?_ ?_
  rotate_left
  · intro w'
    go_simp
    with_reducible rfl
  rotate_left
  · simp only [Act.put, List.setIfInBounds_toArray, List.set_cons_zero, List.set_cons_succ, i64_w, i32_w]
    rfl
  refine pure_ (i := 18) (N := some 7) (v := ?_) (a' := ?_) #[true, true, true, true, true, true, true, true, true, true, true, true, true, true, true, true, true, true, true] rfl rfl (by kernel_rfl) (fun _ _ _ h => h) (Or.inl ⟨by rfl, ?_⟩) ?_ ?_
  rotate_left
  · intro w'
    go_simp
    with_reducible rfl
  rotate_left
  · simp only [Act.put, List.setIfInBounds_toArray, List.set_cons_zero, List.set_cons_succ, i64_w, i32_w]
    rfl
  refine done_ (by kernel_rfl) ?_

  have hB4 : Below wd.heap.size wd w4 := Fr.below F9 hB (Nat.le_refl _) (fun k hk => by omega)
  have C4 := Lib.hid (CD.out.below hB4)
  have O4 := Lib.hid (Kd.V_mono (Kd.V_step hO (fun k hk hlt => F9.same k hlt hk.2)) (fun k hk => CD.out.fresh hk.1))
  have I4 := Lib.hid (Kd.V_mono (Kd.V_step hI (fun k hk hlt => F9.same k hlt hk.2)) (fun k hk => CD.out.fresh hk.1))
  have V4 := Lib.hid (Kd.R_step hV (fun k hk hlt => F9.same k hlt hk.2))
  have Z4 := Lib.hid Z9
  have B4 := Lib.hid (bb HWS.out hB4)
  have TL := Lib.hid htle
  clear hO hI hV F9 hB hB4 hZ Z9 htle hHeld HQ
  by_cases hr : r = 0
  · subst hr
    go_wp2_with fail
    replace C4 := Lib.hid (C4.out.below (below_drew (Below.refl _ _))); replace O4 := Lib.hid (Kd.V_drew O4.out); replace I4 := Lib.hid (Kd.V_drew I4.out); replace V4 := Lib.hid (Kd.R_drew V4.out); replace Z4 := Lib.hid (Z4.out.below (below_drew (Below.refl _ _)))
    refine start_ (n := 7) (S := fun w' => w'.cell? ⟨t, 0, none⟩ = some (.slice A5 x.f0.length k5) ∧ w'.cell? ⟨t, 1, none⟩ = some (.int .i64 x.f1) ∧ w'.cell? ⟨t, 2, none⟩ = some (.int .i64 x.f2) ∧ w'.cell? ⟨t, 3, none⟩ = some (.slice A6 x.f3.length k6) ∧ w'.cell? ⟨t, 4, none⟩ = some (.bool x.f4) ∧ w'.cell? ⟨t, 5, none⟩ = some (.int .i64 x.f5)) (ds := [6]) #[false, false, false, false, false, false, false] (by kernel_rfl) rfl rfl ⟨Z4.out.c0, Z4.out.c1, Z4.out.c2, Z4.out.c3, Z4.out.c4, Z4.out.c5⟩ (fun hHeld => ?_)
    generalize w4.drew = w5 at C4 O4 I4 V4 Z4 hHeld ⊢
    refine pure_ (i := 0) (N := some 25) (v := ?_) (a' := ?_) #[true, false, false, false, false, false, false] rfl rfl (by kernel_rfl) (fun _ _ _ h => h) (Or.inl ⟨by rfl, ?_⟩) ?_ ?_
    rotate_left
    · intro w'
      go_simp
      with_reducible rfl
    rotate_left
    · simp only [Act.put, List.setIfInBounds_toArray, List.set_cons_zero, List.set_cons_succ, i64_w, i32_w]
      rfl
    refine pure_ (i := 1) (N := some 26) (v := ?_) (a' := ?_) #[true, true, false, false, false, false, false] rfl rfl (by kernel_rfl) (fun _ _ _ h => h) (Or.inl ⟨by rfl, ?_⟩) ?_ ?_
    rotate_left
    · intro w'
      go_simp
      with_reducible rfl
    rotate_left
    · simp only [Act.put, List.setIfInBounds_toArray, List.set_cons_zero, List.set_cons_succ, i64_w, i32_w]
      rfl
    refine pure_ (i := 3) (N := some 28) (v := ?_) (a' := ?_) #[true, true, false, true, false, false, false] rfl rfl (by kernel_rfl) (fun _ _ _ h => h) (Or.inl ⟨by rfl, ?_⟩) ?_ ?_
    rotate_left
    · intro w'
      go_simp
      with_reducible rfl
    rotate_left
    · simp only [Act.put, List.setIfInBounds_toArray, List.set_cons_zero, List.set_cons_succ, i64_w, i32_w]
      rfl
    refine pure_ (i := 4) (N := some 29) (v := ?_) (a' := ?_) #[true, true, false, true, true, false, false] rfl rfl (by kernel_rfl) (fun _ _ _ h => h) (Or.inl ⟨by rfl, ?_⟩) ?_ ?_
    rotate_left
    · intro w'
      go_simp
      with_reducible rfl
    rotate_left
    · simp only [Act.put, List.setIfInBounds_toArray, List.set_cons_zero, List.set_cons_succ, i64_w, i32_w]
      rfl
    refine take_ (i := 2) (N := some 27) (v := ?_) (a' := ?_) #[true, true, true, true, true, false, false] rfl rfl (by kernel_rfl) (fun _ _ _ h => h) (Or.inl ⟨by rfl, ?_⟩) hHeld ?_ ?_
    rotate_left
    · rintro w' ⟨s0, s1, s2, s3, s4, s5⟩
      go_simp
      with_reducible rfl
    rotate_left
    · simp only [Act.put, List.setIfInBounds_toArray, List.set_cons_zero, List.set_cons_succ, i64_w, i32_w]
      rfl
    refine pure_ (i := 5) (N := some 30) (v := ?_) (a' := ?_) #[true, true, true, true, true, true, false] rfl rfl (by kernel_rfl) (fun _ _ _ h => h) (Or.inl ⟨by rfl, ?_⟩) ?_ ?_
    rotate_left
    · intro w'
      go_simp
      with_reducible rfl
    rotate_left
    · simp only [Act.put, List.setIfInBounds_toArray, List.set_cons_zero, List.set_cons_succ, i64_w, i32_w]
      rfl
    refine last_ (i := 6) (N := none) #[true, true, true, true, true, true, true] rfl rfl (by kernel_rfl) (by decide) (fun K hK => ?_)
    have z0 := C4.out.blk.c6; have z1 := C4.out.blk.c7; have z2 := C4.out.blk.c8; have z3 := C4.out.blk.c9; have z4 := C4.out.blk.c10; have z5 := C4.out.blk.c11; have y := blk_frozen C4.out.blk
    refine skip_ (w1 := ?_) (by rfl) rfl ?_ ?_
    rotate_left
    · go_simp
      rfl
    obtain ⟨w6, hw9, hB9, F9⟩ := C4.out.blk.end1 (.slice A5 x.f0.length k5) (.slice A6 x.f3.length k6) x
    rw [← hw9]
    clear hw9 z0 z1 z2 z3 z4 z5 y
    refine hK.out _ _ ?_
    clear hK K
    refine done_ (by kernel_rfl) ?_

    have C6 := Lib.hid (C4.out.set1 F9 hB9 O4.out I4.out)
    have gne : ∀ k, (wd.heap.size ≤ k ∧ k ≠ t) → k ≠ g := fun k hk e => by have := heap_lt CD.out.blk; omega
    have V6 := Lib.hid (Kd.R_step V4.out (fun k hk hlt => F9.same k hlt (gne k hk)))
    have fr := fun k (hk : wd.heap.size ≤ k ∧ k ≠ t) => CD.out.fresh hk.1
    have FRS := Lib.hid fr
    clear C4 O4 I4 V4 Z4 F9 hB9 gne fr hHeld
    go_wp2_with fail
    replace C6 := Lib.hid (C6.out.below (below_drew (Below.refl _ _))); replace V6 := Lib.hid (Kd.R_drew V6.out)
    have hw1 := wr1; have hw0 := wr0
    refine start_ (n := 16) (S := fun w' => w'.cell? ⟨g, 12, none⟩ = some w0) (ds := [15]) #[false, false, false, false, false, false, false, false, false, false, false, false, false, false, false, false] (by kernel_rfl) rfl rfl (C6.out.blk.c12) (fun hHeld => ?_)
    generalize w6.drew = w7 at C6 V6 hHeld ⊢
    refine pure_ (i := 0) (N := some 31) (v := ?_) (a' := ?_) #[true, false, false, false, false, false, false, false, false, false, false, false, false, false, false, false] rfl rfl (by kernel_rfl) (fun _ _ _ h => h) (Or.inl ⟨by rfl, ?_⟩) ?_ ?_
    rotate_left
    · intro w'
      go_simp
      with_reducible rfl
    rotate_left
    · simp only [Act.put, List.setIfInBounds_toArray, List.set_cons_zero, List.set_cons_succ, i64_w, i32_w]
      rfl
    refine pure_ (i := 1) (N := some 32) (v := ?_) (a' := ?_) #[true, true, false, false, false, false, false, false, false, false, false, false, false, false, false, false] rfl rfl (by kernel_rfl) (fun _ _ _ h => h) (Or.inl ⟨by rfl, ?_⟩) ?_ ?_
    rotate_left
    · intro w'
      go_simp
      with_reducible rfl
    rotate_left
    · simp only [Act.put, List.setIfInBounds_toArray, List.set_cons_zero, List.set_cons_succ, i64_w, i32_w]
      rfl
    refine pure_ (i := 2) (N := some 33) (v := ?_) (a' := ?_) #[true, true, true, false, false, false, false, false, false, false, false, false, false, false, false, false] rfl rfl (by kernel_rfl) (fun _ _ _ h => h) (Or.inl ⟨by rfl, ?_⟩) ?_ ?_
    rotate_left
    · intro w'
      go_simp
      with_reducible rfl
    rotate_left
    · simp only [Act.put, List.setIfInBounds_toArray, List.set_cons_zero, List.set_cons_succ, i64_w, i32_w]
      rfl
    refine pure_ (i := 3) (N := some 34) (v := ?_) (a' := ?_) #[true, true, true, true, false, false, false, false, false, false, false, false, false, false, false, false] rfl rfl (by kernel_rfl) (fun _ _ _ h => h) (Or.inl ⟨by rfl, ?_⟩) ?_ ?_
    rotate_left
    · intro w'
      go_simp
      with_reducible rfl
    rotate_left
    · simp only [Act.put, List.setIfInBounds_toArray, List.set_cons_zero, List.set_cons_succ, i64_w, i32_w]
      rfl
    refine pure_ (i := 4) (N := some 35) (v := ?_) (a' := ?_) #[true, true, true, true, true, false, false, false, false, false, false, false, false, false, false, false] rfl rfl (by kernel_rfl) (fun _ _ _ h => h) (Or.inl ⟨by rfl, ?_⟩) ?_ ?_
    rotate_left
    · intro w'
      go_simp
      with_reducible rfl
    rotate_left
    · simp only [Act.put, List.setIfInBounds_toArray, List.set_cons_zero, List.set_cons_succ, i64_w, i32_w]
      rfl
    refine pure_ (i := 5) (N := some 36) (v := ?_) (a' := ?_) #[true, true, true, true, true, true, false, false, false, false, false, false, false, false, false, false] rfl rfl (by kernel_rfl) (fun _ _ _ h => h) (Or.inl ⟨by rfl, ?_⟩) ?_ ?_
    rotate_left
    · intro w'
      go_simp
      with_reducible rfl
    rotate_left
    · simp only [Act.put, List.setIfInBounds_toArray, List.set_cons_zero, List.set_cons_succ, i64_w, i32_w]
      rfl
    refine pure_ (i := 6) (N := some 37) (v := ?_) (a' := ?_) #[true, true, true, true, true, true, true, false, false, false, false, false, false, false, false, false] rfl rfl (by kernel_rfl) (fun _ _ _ h => h) (Or.inl ⟨by rfl, ?_⟩) ?_ ?_
    rotate_left
    · intro w'
      go_simp
      with_reducible rfl
    rotate_left
    · simp only [Act.put, List.setIfInBounds_toArray, List.set_cons_zero, List.set_cons_succ, i64_w, i32_w]
      rfl
    refine pure_ (i := 7) (N := some 38) (v := ?_) (a' := ?_) #[true, true, true, true, true, true, true, true, false, false, false, false, false, false, false, false] rfl rfl (by kernel_rfl) (fun _ _ _ h => h) (Or.inl ⟨by rfl, ?_⟩) ?_ ?_
    rotate_left
    · intro w'
      go_simp
      with_reducible rfl
    rotate_left
    · simp only [Act.put, List.setIfInBounds_toArray, List.set_cons_zero, List.set_cons_succ, i64_w, i32_w]
      rfl
    refine pure_ (i := 8) (N := some 39) (v := ?_) (a' := ?_) #[true, true, true, true, true, true, true, true, true, false, false, false, false, false, false, false] rfl rfl (by kernel_rfl) (fun _ _ _ h => h) (Or.inl ⟨by rfl, ?_⟩) ?_ ?_
    rotate_left
    · intro w'
      go_simp
      with_reducible rfl
    rotate_left
    · simp only [Act.put, List.setIfInBounds_toArray, List.set_cons_zero, List.set_cons_succ, i64_w, i32_w]
      rfl
    refine pure_ (i := 10) (N := some 41) (v := ?_) (a' := ?_) #[true, true, true, true, true, true, true, true, true, false, true, false, false, false, false, false] rfl rfl (by kernel_rfl) (fun _ _ _ h => h) (Or.inl ⟨by rfl, ?_⟩) ?_ ?_
    rotate_left
    · intro w'
      go_simp
      with_reducible rfl
    rotate_left
    · simp only [Act.put, List.setIfInBounds_toArray, List.set_cons_zero, List.set_cons_succ, i64_w, i32_w]
      rfl
    refine pure_ (i := 12) (N := some 43) (v := ?_) (a' := ?_) #[true, true, true, true, true, true, true, true, true, false, true, false, true, false, false, false] rfl rfl (by kernel_rfl) (fun _ _ _ h => h) (Or.inl ⟨by rfl, ?_⟩) ?_ ?_
    rotate_left
    · intro w'
      go_simp
      with_reducible rfl
    rotate_left
    · simp only [Act.put, List.setIfInBounds_toArray, List.set_cons_zero, List.set_cons_succ, i64_w, i32_w]
      rfl
    refine pure_ (i := 13) (N := some 44) (v := ?_) (a' := ?_) #[true, true, true, true, true, true, true, true, true, false, true, false, true, true, false, false] rfl rfl (by kernel_rfl) (fun _ _ _ h => h) (Or.inl ⟨by rfl, ?_⟩) ?_ ?_
    rotate_left
    · intro w'
      go_simp
      with_reducible rfl
    rotate_left
    · simp only [Act.put, List.setIfInBounds_toArray, List.set_cons_zero, List.set_cons_succ, i64_w, i32_w]
      rfl
    refine take_ (i := 9) (N := some 40) (v := ?_) (a' := ?_) #[true, true, true, true, true, true, true, true, true, true, true, false, true, true, false, false] rfl rfl (by kernel_rfl) (fun _ _ _ h => h) (Or.inl ⟨by rfl, ?_⟩) hHeld ?_ ?_
    rotate_left
    · intro w' s0
      go_simp
      with_reducible rfl
    rotate_left
    · simp only [Act.put, List.setIfInBounds_toArray, List.set_cons_zero, List.set_cons_succ, i64_w, i32_w]
      rfl
    refine one_ (i := 11) (N := some 42) #[true, true, true, true, true, true, true, true, true, true, true, true, true, true, false, false] rfl rfl (by kernel_rfl) (by decide) (fun K hK => ?_)
    obtain ⟨Av, kv, hvl, hvle, hrr⟩ := OwnRow.reads V6.out.2
    refine Kd.R_append_rows_step (Rr := k83.M w7 w.heap.size (fun k => wd.heap.size ≤ k ∧ k ≠ t)) k83 (w0 := w) w.heap.size (by rfl) (.tmp 40) (.tmp 41) 65 83 (.agg #[.int .i64 0, .bool false, .slice none 0 0]) 40 (by rfl) Try.underlying65 info83 rfl (by decide) (by decide) w0 l0 l Av l.length kv (fun k => k ≠ g ∧ some k ≠ w1.ownBlock ∧ some k ≠ p0.ownBlock ∧ some k ≠ p1.ownBlock) (fun k => wd.heap.size ≤ k ∧ k ≠ t) (by rfl) (by rw [← hvl]; rfl) C6.out.ww0 (hrr.imp_ (Below.refl _ _) (fun _ _ hp => k83.M_lower CD.out.low.size (k83.M_mono (fun _ hk => hk.1) hp))) (fun _ _ hp => hp) (fun k hk => ⟨⟨(FRS.out k hk).1, (FRS.out k hk).2.2⟩, (FRS.out k hk).2.1⟩) (fun k hk => ⟨(C6.out.fresh hk).1, (C6.out.fresh hk).2.2⟩) C6.out.low C6.out.low.size (by have := HW.out; have := HLL.out; omega) ?_
    intro v8 w8 hR8 hb8 hg8 hat8
    obtain ⟨A8, k8, hv8⟩ := Kd.R_slice hR8
    subst hv8
    have hlen : (l0 ++ l).length = l0.length + l.length := List.length_append
    simp only [hlen] at hR8 hg8 hat8 ⊢
    clear hlen
    refine hK.out _ _ ((show ChB w8 g _ _ _ _ _ _ w0 w1 p0 p1 now from blk_grown C6.out.blk hg8 (fun e => (C6.out.ww0.1 g e.symm).1 rfl)).c12) (fun hHeld => ?_)
    clear hK K
    refine norm_ (a' := ?_) ?_ ?_
    rotate_left
    · show Act.put _ (some 42) _ = _
      simp only [Act.put, List.setIfInBounds_toArray, List.set_cons_zero, List.set_cons_succ, i64_w, i32_w]
      rfl
    refine pure_ (i := 14) (N := some 45) (v := ?_) (a' := ?_) #[true, true, true, true, true, true, true, true, true, true, true, true, true, true, true, false] rfl rfl (by kernel_rfl) (fun _ _ _ h => h) (Or.inl ⟨by rfl, ?_⟩) ?_ ?_
    rotate_left
    · intro w'
      go_simp
      with_reducible rfl
    rotate_left
    · simp only [Act.put, List.setIfInBounds_toArray, List.set_cons_zero, List.set_cons_succ, i64_w, i32_w]
      rfl
    refine last_ (i := 15) (N := none) #[true, true, true, true, true, true, true, true, true, true, true, true, true, true, true, true] rfl rfl (by kernel_rfl) (by decide) (fun K hK => ?_)
    have hblk8 : ChB w8 g _ _ _ _ _ _ w0 w1 p0 p1 now := blk_grown C6.out.blk hg8 (fun e => (C6.out.ww0.1 g e.symm).1 rfl)
    have q1 := hblk8.c12; have q2 := blk_frozen hblk8 12
    refine skip_ (w1 := ?_) (by rfl) rfl ?_ ?_
    rotate_left
    · go_simp
      rfl
    refine hK.out _ _ ?_
    clear hK K
    refine done_ (by kernel_rfl) ?_

    have C9 := Lib.hid (C6.out.way0 hb8 hg8 hat8 hR8)
    clear hR8 hb8 hg8 hat8 hblk8 q1 q2 hrr
    go_wp2_with fail
    go_ret
    exact ⟨rfl, .slice A5 x.f0.length k5, .slice A6 x.f3.length k6, .slice A8 (l0.length + l.length) k8, C9.out⟩
  · have hz : (r != 0) = true := by simpa using hr
    have HRN := Lib.hid hr
    clear hr
    go_wp2_with fail
    go_ret
    exact Or.inl ⟨HRN.out, rfl, B4.out⟩
end Go.Proofs.Ytbfhohpbldadbaa.P

namespace Go.Proofs.Ytbfhohpbldadbaa.P
open Go Go.RowKit Go.Proofs.YtbfhohpbldadbaaW.PrintWords Go.Proofs.YtbfhohpbldadbaaW.PrintLast Go.Proofs.YtbfhohpbldadbaaW.PrintMore
set_option linter.unusedVariables false
set_option linter.unusedSimpArgs false
theorem recv_lit2 {c : S61} {b : S83} {now : Int} {x : S61} {r : Int} (h : recvF c b now = (x, r)) (A0 : Option Addr) (c0 : Nat) (A3 : Option Addr) (c3 : Nat) (A2 : Option Addr) (c2 : Nat) (w : World) (hr : Kd.C kL w A0 c.f0.length c.f0) (hr3 : Kd.C k39 w A3 c.f3.length c.f3) (hl : c.f3.length ≤ 1000000) (hr2 : Kd.C k39 w A2 b.f2.length b.f2) :
    Calls Try.prog 46 #[.agg #[.slice A0 c.f0.length c0, .int .i64 c.f1, .int .i64 c.f2, .slice A3 c.f3.length c3, .bool c.f4, .int .i64 c.f5], .agg #[.int .i64 b.f0, .bool b.f1, .slice A2 b.f2.length c2], .int .i64 now] w (Off2 x r w) := by
  have hc := recv_calls A0 c0 A3 c3 c A2 c2 b now w hr hr3 hl hr2
  rw [h] at hc
  exact hc
theorem AtB83.keep {w w' : World} {a : Addr} {b : S83} {A2 : Option Addr} {k2 : Nat} (h : AtB83 w a b A2 k2) (hb : Below w.heap.size w w') : AtB83 w' a b A2 k2 := ⟨cell_keep h.c0 hb, cell_keep h.c1 hb, cell_keep h.c2 hb, h.le, Kd.C_below h.cc hb⟩
set_option maxHeartbeats 16000000 in
set_option maxRecDepth 100000 in
theorem delCh0 (w W : World) (g : Nat) (vo0 vi0 : Value) (x0 : S61) (vo1 vi1 : Value) (x1 : S61) (w0 w1 : Value) (l0 l1 : List S83) (p0 p1 : Value) (r0 r1 : List S39) (now : Int) (h : Chan w W g vo0 vi0 x0 vo1 vi1 x1 w0 w1 l0 l1 p0 p1 r0 r1 now) (hl : x0.f3.length ≤ 1000000) (i : Nat) (hi : i < l0.length) (hw : l0.length ≤ 1000000) (b : S83) (hbi : l0[i]'hi = b) (x : S61) (r : Int) (heq : recvF x0 b now = (x, r)) :
    Calls Try.prog 37 #[.pointer (some ⟨g, 0, none⟩), .int .i64 0, .int .i64 i] W fun e W' => (r ≠ 0 ∧ e = .returned (.bool false) ∧ Below W.heap.size W W') ∨ (r = 0 ∧ e = .returned (.bool true) ∧ ∃ vo vi, Chan w W' g vo vi x vo1 vi1 x1 w0 w1 l0 l1 p0 p1 r0 r1 now) := by
  obtain ⟨AO, cO, hvo⟩ := Kd.V_slice h.o0
  obtain ⟨AI, cI, hvi⟩ := Kd.V_slice h.i0
  obtain ⟨AW, cW, hvw⟩ := Kd.R_slice h.ww0
  subst hvo hvi hvw
  obtain ⟨ad, A2, k2, hA, hat⟩ := B83_cell (Kd.R_reads' h.ww0).2.2 i hi hi
  subst hA
  replace hat : AtB83 W (ad.add (i * 3)) b A2 k2 := by rw [← hbi]; exact hat
  have C := Lib.hid h; have HL := Lib.hid hl; have HQ := Lib.hid heq; have HI := Lib.hid hi; have AT0 := Lib.hid hat
  have i0 : (0 : Int) ≤ (i : Int) := by omega
  have i1 : (i : Int) < (l0.length : Int) := by omega
  clear h hl heq hbi hat hi hw
  go_enter Try.func37, Try.ntmps37
  go_wp2_with fail
  have HWS := Lib.hid (show Below W.heap.size W W.drew from below_drew (Below.refl _ _))
  have CD := Lib.hid (C.out.below (below_drew (Below.refl _ _)))
  have AT := Lib.hid (AT0.out.keep (below_drew (Below.refl _ _)))
  clear AT0
  refine start_ (n := 26) (S := fun w' => w'.cell? ⟨g, 0, none⟩ = some (.slice AO x0.f0.length cO) ∧ w'.cell? ⟨g, 1, none⟩ = some (.int .i64 x0.f1) ∧ w'.cell? ⟨g, 2, none⟩ = some (.int .i64 x0.f2) ∧ w'.cell? ⟨g, 3, none⟩ = some (.slice AI x0.f3.length cI) ∧ w'.cell? ⟨g, 4, none⟩ = some (.bool x0.f4) ∧ w'.cell? ⟨g, 5, none⟩ = some (.int .i64 x0.f5) ∧ w'.cell? ⟨g, 16, none⟩ = some (.int .i64 now) ∧ w'.cell? ⟨g, 12, none⟩ = some (.slice (some ad) l0.length cW) ∧ w'.cell? (ad.add (i * 3)) = some (.int .i64 b.f0) ∧ w'.cell? ⟨(ad.add (i * 3)).block, (ad.add (i * 3)).off + 1, none⟩ = some (.bool b.f1) ∧ w'.cell? ⟨(ad.add (i * 3)).block, (ad.add (i * 3)).off + 2, none⟩ = some (.slice A2 b.f2.length k2)) (ds := [24]) #[false, false, false, false, false, false, false, false, false, false, false, false, false, false, false, false, false, false, false, false, false, false, false, false, false, false] (by kernel_rfl) rfl rfl ⟨CD.out.blk.c0, CD.out.blk.c1, CD.out.blk.c2, CD.out.blk.c3, CD.out.blk.c4, CD.out.blk.c5, CD.out.blk.c16, CD.out.blk.c12, AT.out.c0, AT.out.c1, AT.out.c2⟩ (fun hHeld => ?_)
  generalize W.drew = wd at CD AT HWS hHeld ⊢
  refine pure_ (i := 0) (N := some 10) (v := ?_) (a' := ?_) #[true, false, false, false, false, false, false, false, false, false, false, false, false, false, false, false, false, false, false, false, false, false, false, false, false, false] rfl rfl (by kernel_rfl) (fun _ _ _ h => h) (Or.inl ⟨by rfl, ?_⟩) ?_ ?_
  rotate_left
  · intro w'
    go_simp
    with_reducible rfl
  rotate_left
  · simp only [Act.put, List.setIfInBounds_toArray, List.set_cons_zero, List.set_cons_succ, i64_w, i32_w]
    rfl
  refine pure_ (i := 1) (N := some 11) (v := ?_) (a' := ?_) #[true, true, false, false, false, false, false, false, false, false, false, false, false, false, false, false, false, false, false, false, false, false, false, false, false, false] rfl rfl (by kernel_rfl) (fun _ _ _ h => h) (Or.inl ⟨by rfl, ?_⟩) ?_ ?_
  rotate_left
  · intro w'
    go_simp
    with_reducible rfl
  rotate_left
  · simp only [Act.put, List.setIfInBounds_toArray, List.set_cons_zero, List.set_cons_succ, i64_w, i32_w]
    rfl
  refine pure_ (i := 2) (N := some 12) (v := ?_) (a' := ?_) #[true, true, true, false, false, false, false, false, false, false, false, false, false, false, false, false, false, false, false, false, false, false, false, false, false, false] rfl rfl (by kernel_rfl) (fun _ _ _ h => h) (Or.inl ⟨by rfl, ?_⟩) ?_ ?_
  rotate_left
  · intro w'
    go_simp
    with_reducible rfl
  rotate_left
  · simp only [Act.put, List.setIfInBounds_toArray, List.set_cons_zero, List.set_cons_succ, i64_w, i32_w]
    rfl
  refine pure_ (i := 3) (N := some 13) (v := ?_) (a' := ?_) #[true, true, true, true, false, false, false, false, false, false, false, false, false, false, false, false, false, false, false, false, false, false, false, false, false, false] rfl rfl (by kernel_rfl) (fun _ _ _ h => h) (Or.inl ⟨by rfl, ?_⟩) ?_ ?_
  rotate_left
  · intro w'
    go_simp
    with_reducible rfl
  rotate_left
  · simp only [Act.put, List.setIfInBounds_toArray, List.set_cons_zero, List.set_cons_succ, i64_w, i32_w]
    rfl
  refine pure_ (i := 4) (N := some 14) (v := ?_) (a' := ?_) #[true, true, true, true, true, false, false, false, false, false, false, false, false, false, false, false, false, false, false, false, false, false, false, false, false, false] rfl rfl (by kernel_rfl) (fun _ _ _ h => h) (Or.inl ⟨by rfl, ?_⟩) ?_ ?_
  rotate_left
  · intro w'
    go_simp
    with_reducible rfl
  rotate_left
  · simp only [Act.put, List.setIfInBounds_toArray, List.set_cons_zero, List.set_cons_succ, i64_w, i32_w]
    rfl
  refine pure_ (i := 6) (N := some 16) (v := ?_) (a' := ?_) #[true, true, true, true, true, false, true, false, false, false, false, false, false, false, false, false, false, false, false, false, false, false, false, false, false, false] rfl rfl (by kernel_rfl) (fun _ _ _ h => h) (Or.inl ⟨by rfl, ?_⟩) ?_ ?_
  rotate_left
  · intro w'
    go_simp
    with_reducible rfl
  rotate_left
  · simp only [Act.put, List.setIfInBounds_toArray, List.set_cons_zero, List.set_cons_succ, i64_w, i32_w]
    rfl
  refine pure_ (i := 7) (N := some 17) (v := ?_) (a' := ?_) #[true, true, true, true, true, false, true, true, false, false, false, false, false, false, false, false, false, false, false, false, false, false, false, false, false, false] rfl rfl (by kernel_rfl) (fun _ _ _ h => h) (Or.inl ⟨by rfl, ?_⟩) ?_ ?_
  rotate_left
  · intro w'
    go_simp
    with_reducible rfl
  rotate_left
  · simp only [Act.put, List.setIfInBounds_toArray, List.set_cons_zero, List.set_cons_succ, i64_w, i32_w]
    rfl
  refine pure_ (i := 8) (N := some 18) (v := ?_) (a' := ?_) #[true, true, true, true, true, false, true, true, true, false, false, false, false, false, false, false, false, false, false, false, false, false, false, false, false, false] rfl rfl (by kernel_rfl) (fun _ _ _ h => h) (Or.inl ⟨by rfl, ?_⟩) ?_ ?_
  rotate_left
  · intro w'
    go_simp
    with_reducible rfl
  rotate_left
  · simp only [Act.put, List.setIfInBounds_toArray, List.set_cons_zero, List.set_cons_succ, i64_w, i32_w]
    rfl
  refine pure_ (i := 9) (N := some 19) (v := ?_) (a' := ?_) #[true, true, true, true, true, false, true, true, true, true, false, false, false, false, false, false, false, false, false, false, false, false, false, false, false, false] rfl rfl (by kernel_rfl) (fun _ _ _ h => h) (Or.inl ⟨by rfl, ?_⟩) ?_ ?_
  rotate_left
  · intro w'
    go_simp
    with_reducible rfl
  rotate_left
  · simp only [Act.put, List.setIfInBounds_toArray, List.set_cons_zero, List.set_cons_succ, i64_w, i32_w]
    rfl
  refine pure_ (i := 10) (N := some 20) (v := ?_) (a' := ?_) #[true, true, true, true, true, false, true, true, true, true, true, false, false, false, false, false, false, false, false, false, false, false, false, false, false, false] rfl rfl (by kernel_rfl) (fun _ _ _ h => h) (Or.inl ⟨by rfl, ?_⟩) ?_ ?_
  rotate_left
  · intro w'
    go_simp
    with_reducible rfl
  rotate_left
  · simp only [Act.put, List.setIfInBounds_toArray, List.set_cons_zero, List.set_cons_succ, i64_w, i32_w]
    rfl
  refine pure_ (i := 12) (N := some 22) (v := ?_) (a' := ?_) #[true, true, true, true, true, false, true, true, true, true, true, false, true, false, false, false, false, false, false, false, false, false, false, false, false, false] rfl rfl (by kernel_rfl) (fun _ _ _ h => h) (Or.inl ⟨by rfl, ?_⟩) ?_ ?_
  rotate_left
  · intro w'
    go_simp
    with_reducible rfl
  rotate_left
  · simp only [Act.put, List.setIfInBounds_toArray, List.set_cons_zero, List.set_cons_succ, i64_w, i32_w]
    rfl
  refine pure_ (i := 15) (N := some 25) (v := ?_) (a' := ?_) #[true, true, true, true, true, false, true, true, true, true, true, false, true, false, false, true, false, false, false, false, false, false, false, false, false, false] rfl rfl (by kernel_rfl) (fun _ _ _ h => h) (Or.inl ⟨by rfl, ?_⟩) ?_ ?_
  rotate_left
  · intro w'
    go_simp
    with_reducible rfl
  rotate_left
  · simp only [Act.put, List.setIfInBounds_toArray, List.set_cons_zero, List.set_cons_succ, i64_w, i32_w]
    rfl
  refine pure_ (i := 16) (N := some 26) (v := ?_) (a' := ?_) #[true, true, true, true, true, false, true, true, true, true, true, false, true, false, false, true, true, false, false, false, false, false, false, false, false, false] rfl rfl (by kernel_rfl) (fun _ _ _ h => h) (Or.inl ⟨by rfl, ?_⟩) ?_ ?_
  rotate_left
  · intro w'
    go_simp
    with_reducible rfl
  rotate_left
  · simp only [Act.put, List.setIfInBounds_toArray, List.set_cons_zero, List.set_cons_succ, i64_w, i32_w]
    rfl
  refine pure_ (i := 17) (N := some 27) (v := ?_) (a' := ?_) #[true, true, true, true, true, false, true, true, true, true, true, false, true, false, false, true, true, true, false, false, false, false, false, false, false, false] rfl rfl (by kernel_rfl) (fun _ _ _ h => h) (Or.inl ⟨by rfl, ?_⟩) ?_ ?_
  rotate_left
  · intro w'
    go_simp
    with_reducible rfl
  rotate_left
  · simp only [Act.put, List.setIfInBounds_toArray, List.set_cons_zero, List.set_cons_succ, i64_w, i32_w]
    rfl
  refine take_ (i := 5) (N := some 15) (v := ?_) (a' := ?_) #[true, true, true, true, true, true, true, true, true, true, true, false, true, false, false, true, true, true, false, false, false, false, false, false, false, false] rfl rfl (by kernel_rfl) (fun _ _ _ h => h) (Or.inl ⟨by rfl, ?_⟩) hHeld ?_ ?_
  rotate_left
  · rintro w' ⟨s0, s1, s2, s3, s4, s5, s6, s7, s8, s9, s10⟩
    go_simp
    with_reducible rfl
  rotate_left
  · simp only [Act.put, List.setIfInBounds_toArray, List.set_cons_zero, List.set_cons_succ, i64_w, i32_w]
    rfl
  refine take_ (i := 11) (N := some 21) (v := ?_) (a' := ?_) #[true, true, true, true, true, true, true, true, true, true, true, true, true, false, false, true, true, true, false, false, false, false, false, false, false, false] rfl rfl (by kernel_rfl) (fun _ _ _ h => h) (Or.inl ⟨by rfl, ?_⟩) hHeld ?_ ?_
  rotate_left
  · rintro w' ⟨s0, s1, s2, s3, s4, s5, s6, s7, s8, s9, s10⟩
    go_simp
    with_reducible rfl
  rotate_left
  · simp only [Act.put, List.setIfInBounds_toArray, List.set_cons_zero, List.set_cons_succ, i64_w, i32_w]
    rfl
  refine pure_ (i := 13) (N := some 23) (v := ?_) (a' := ?_) #[true, true, true, true, true, true, true, true, true, true, true, true, true, true, false, true, true, true, false, false, false, false, false, false, false, false] rfl rfl (by kernel_rfl) (fun _ _ _ h => h) (Or.inl ⟨by rfl, ?_⟩) ?_ ?_
  rotate_left
  · intro w'
    go_simp
    with_reducible rfl
  rotate_left
  · simp only [Act.put, List.setIfInBounds_toArray, List.set_cons_zero, List.set_cons_succ, i64_w, i32_w]
    rfl
  refine take_ (i := 14) (N := some 24) (v := ?_) (a' := ?_) #[true, true, true, true, true, true, true, true, true, true, true, true, true, true, true, true, true, true, false, false, false, false, false, false, false, false] rfl rfl (by kernel_rfl) (fun _ _ _ h => h) (Or.inl ⟨by rfl, ?_⟩) hHeld ?_ ?_
  rotate_left
  · rintro w' ⟨s0, s1, s2, s3, s4, s5, s6, s7, s8, s9, s10⟩
    go_simp
    with_reducible rfl
  rotate_left
  · simp only [Act.put, List.setIfInBounds_toArray, List.set_cons_zero, List.set_cons_succ, i64_w, i32_w]
    rfl
  refine take_ (i := 18) (N := some 28) (v := ?_) (a' := ?_) #[true, true, true, true, true, true, true, true, true, true, true, true, true, true, true, true, true, true, true, false, false, false, false, false, false, false] rfl rfl (by kernel_rfl) (fun _ _ _ h => h) (Or.inl ⟨by rfl, ?_⟩) hHeld ?_ ?_
  rotate_left
  · rintro w' ⟨s0, s1, s2, s3, s4, s5, s6, s7, s8, s9, s10⟩
    go_simp
    with_reducible rfl
  rotate_left
  · simp only [Act.put, List.setIfInBounds_toArray, List.set_cons_zero, List.set_cons_succ, i64_w, i32_w]
    rfl
  refine join_ (σ := Nat × Option Addr × Nat × Option Addr × Nat) 2 #[true, true, true, true, true, true, true, true, true, true, true, true, true, true, true, true, true, true, true, true, true, true, true, true, false, false] (fun s => [(29, .tuple #[.agg #[.slice s.2.1 x.f0.length s.2.2.1, .int .i64 x.f1, .int .i64 x.f2, .slice s.2.2.2.1 x.f3.length s.2.2.2.2, .bool x.f4, .int .i64 x.f5], .int .i64 r]), (7, .pointer (some ⟨s.1, 0, none⟩)), (9, .tuple #[.agg #[.slice s.2.1 x.f0.length s.2.2.1, .int .i64 x.f1, .int .i64 x.f2, .slice s.2.2.2.1 x.f3.length s.2.2.2.2, .bool x.f4, .int .i64 x.f5], .int .i64 r]), (30, .agg #[.slice s.2.1 x.f0.length s.2.2.1, .int .i64 x.f1, .int .i64 x.f2, .slice s.2.2.2.1 x.f3.length s.2.2.2.2, .bool x.f4, .int .i64 x.f5]), (31, .int .i64 r)]) (fun s w' => Below wd.heap.size wd w' ∧ wd.heap.size ≤ s.1 ∧ EBlk w' s.1 61 (.slice none 0 0) 0 0 (.slice none 0 0) false 0 ∧ Kd.V kL 28 w' 0 (fun k => wd.heap.size ≤ k ∧ k ≠ s.1) (.slice s.2.1 x.f0.length s.2.2.1) x.f0 ∧ Kd.V k39 39 w' 0 (fun k => wd.heap.size ≤ k ∧ k ≠ s.1) (.slice s.2.2.2.1 x.f3.length s.2.2.2.2) x.f3) ?_ ?_
  rotate_left
  · intro hCont
    refine two_ (i := 19) (j := 23) (Ni := some 29) (Nj := some 7) #[true, true, true, true, true, true, true, true, true, true, true, true, true, true, true, true, true, true, true, true, false, false, false, false, false, false] #[true, true, true, true, true, true, true, true, true, true, true, true, true, true, true, true, true, true, true, false, false, false, false, true, false, false] rfl rfl rfl rfl (by kernel_rfl) (by decide) (by decide) (fun K hK => ?_) (fun K hK => ?_)
    · skip
      refine goes_ Try.func46 (by kernel_rfl) rfl #[.agg #[.slice AO x0.f0.length cO, .int .i64 x0.f1, .int .i64 x0.f2, .slice AI x0.f3.length cI, .bool x0.f4, .int .i64 x0.f5], .agg #[.int .i64 b.f0, .bool b.f1, .slice A2 b.f2.length k2], .int .i64 now] (by rfl) rfl rfl (by simp only [List.map_toArray, List.map_cons, List.map_nil]; rfl) ?_
      with_reducible refine (recv_lit2 HQ.out AO cO AI cI A2 k2 wd (Kd.V_reads' (CD.out.below (Below.refl _ _)).o0).2.2 (Kd.V_reads' (CD.out.below (Below.refl _ _)).i0).2.2 HL.out (AT.out.keep (Below.refl _ _)).cc).mono ?_
      rintro e wx1 ⟨v, rfl, hE, hb⟩
      refine ⟨_, rfl, ?_⟩
      obtain ⟨A5, k5, A6, k6, rfl, hO, hI⟩ := six_read hE
      clear hE
      have hB1 : Below wd.heap.size wd wx1 := hb
      clear hb
      refine hK.out _ _ ⟨(CD.out.below hB1).blk.c0, (CD.out.below hB1).blk.c1, (CD.out.below hB1).blk.c2, (CD.out.below hB1).blk.c3, (CD.out.below hB1).blk.c4, (CD.out.below hB1).blk.c5, (CD.out.below hB1).blk.c16, (CD.out.below hB1).blk.c12, (AT.out.keep hB1).c0, (AT.out.keep hB1).c1, (AT.out.keep hB1).c2⟩ (fun hHeld => ?_)
      clear hK K
      refine norm_ (a' := ?_) ?_ ?_
      rotate_left
      · show Act.put _ (some 29) _ = _
        simp only [Act.put, List.setIfInBounds_toArray, List.set_cons_zero, List.set_cons_succ, i64_w, i32_w]
        rfl
      refine pure_ (i := 20) (N := some 9) (v := ?_) (a' := ?_) #[true, true, true, true, true, true, true, true, true, true, true, true, true, true, true, true, true, true, true, true, true, false, false, false, false, false] rfl rfl (by kernel_rfl) (fun _ _ _ h => h) (Or.inl ⟨by rfl, ?_⟩) ?_ ?_
      rotate_left
      · intro w'
        go_simp
        with_reducible rfl
      rotate_left
      · simp only [Act.put, List.setIfInBounds_toArray, List.set_cons_zero, List.set_cons_succ, i64_w, i32_w]
        rfl
      refine pure_ (i := 21) (N := some 30) (v := ?_) (a' := ?_) #[true, true, true, true, true, true, true, true, true, true, true, true, true, true, true, true, true, true, true, true, true, true, false, false, false, false] rfl rfl (by kernel_rfl) (fun _ _ _ h => h) (Or.inl ⟨by rfl, ?_⟩) ?_ ?_
      rotate_left
      · intro w'
        go_simp
        with_reducible rfl
      rotate_left
      · simp only [Act.put, List.setIfInBounds_toArray, List.set_cons_zero, List.set_cons_succ, i64_w, i32_w]
        rfl
      refine pure_ (i := 22) (N := some 31) (v := ?_) (a' := ?_) #[true, true, true, true, true, true, true, true, true, true, true, true, true, true, true, true, true, true, true, true, true, true, true, false, false, false] rfl rfl (by kernel_rfl) (fun _ _ _ h => h) (Or.inl ⟨by rfl, ?_⟩) ?_ ?_
      rotate_left
      · intro w'
        go_simp
        with_reducible rfl
      rotate_left
      · simp only [Act.put, List.setIfInBounds_toArray, List.set_cons_zero, List.set_cons_succ, i64_w, i32_w]
        rfl
      refine one_ (i := 23) (N := some 7) #[true, true, true, true, true, true, true, true, true, true, true, true, true, true, true, true, true, true, true, true, true, true, true, true, false, false] rfl rfl (by kernel_rfl) (by decide) (fun K hK => ?_)
      refine value_ (w1 := ?_) (v := ?_) (by rfl) rfl ?_ ?_
      rotate_left 2
      · go_simp
        constructor
        all_goals rfl
      have hB2 : Below wd.heap.size wd (wx1.alloc (.cells #[.slice none 0 0, .int .i64 0, .int .i64 0, .slice none 0 0, .bool false, .int .i64 0] 61)) := al hB1 _
      have hZ := EBlk.new wx1 61 (.slice none 0 0) (.slice none 0 0) 0 0 0 false
      have htle : wd.heap.size ≤ wx1.heap.size := hB1.size
      replace hO := Kd.V_mono (Kd.V_alloc (Kd.V_bound hO) (.cells #[.slice none 0 0, .int .i64 0, .int .i64 0, .slice none 0 0, .bool false, .int .i64 0] 61)) (fun k hk => show wd.heap.size ≤ k ∧ k ≠ wx1.heap.size from ⟨hk.1, by have := hk.2; omega⟩)
      replace hI := Kd.V_mono (Kd.V_alloc (Kd.V_bound hI) (.cells #[.slice none 0 0, .int .i64 0, .int .i64 0, .slice none 0 0, .bool false, .int .i64 0] 61)) (fun k hk => show wd.heap.size ≤ k ∧ k ≠ wx1.heap.size from ⟨hk.1, by have := hk.2; omega⟩)
      generalize wx1.alloc (.cells #[.slice none 0 0, .int .i64 0, .int .i64 0, .slice none 0 0, .bool false, .int .i64 0] 61) = wx2 at hB2 hZ hO hI ⊢
      refine hK.out _ _ ⟨(CD.out.below hB2).blk.c0, (CD.out.below hB2).blk.c1, (CD.out.below hB2).blk.c2, (CD.out.below hB2).blk.c3, (CD.out.below hB2).blk.c4, (CD.out.below hB2).blk.c5, (CD.out.below hB2).blk.c16, (CD.out.below hB2).blk.c12, (AT.out.keep hB2).c0, (AT.out.keep hB2).c1, (AT.out.keep hB2).c2⟩ (fun hHeld => ?_)
      clear hK K
      refine norm_ (a' := ?_) ?_ ?_
      rotate_left
      · show Act.put _ (some 7) _ = _
        simp only [Act.put, List.setIfInBounds_toArray, List.set_cons_zero, List.set_cons_succ, i64_w, i32_w]
        rfl
      exact norm_ (by simp only [putAll, Act.put, List.setIfInBounds_toArray, List.set_cons_zero, List.set_cons_succ] <;> rfl) (hCont (wx1.heap.size, A5, k5, A6, k6) _ ⟨hB2, htle, hZ, hO, hI⟩)
    · skip
      refine value_ (w1 := ?_) (v := ?_) (by rfl) rfl ?_ ?_
      rotate_left 2
      · go_simp
        constructor
        all_goals rfl
      have hB1 : Below wd.heap.size wd (wd.alloc (.cells #[.slice none 0 0, .int .i64 0, .int .i64 0, .slice none 0 0, .bool false, .int .i64 0] 61)) := below_one _ _
      have hZ := EBlk.new wd 61 (.slice none 0 0) (.slice none 0 0) 0 0 0 false
      have htle : wd.heap.size ≤ wd.heap.size := Nat.le_refl _
      generalize wd.alloc (.cells #[.slice none 0 0, .int .i64 0, .int .i64 0, .slice none 0 0, .bool false, .int .i64 0] 61) = wx1 at hB1 hZ ⊢
      refine hK.out _ _ ⟨(CD.out.below hB1).blk.c0, (CD.out.below hB1).blk.c1, (CD.out.below hB1).blk.c2, (CD.out.below hB1).blk.c3, (CD.out.below hB1).blk.c4, (CD.out.below hB1).blk.c5, (CD.out.below hB1).blk.c16, (CD.out.below hB1).blk.c12, (AT.out.keep hB1).c0, (AT.out.keep hB1).c1, (AT.out.keep hB1).c2⟩ (fun hHeld => ?_)
      clear hK K
      refine norm_ (a' := ?_) ?_ ?_
      rotate_left
      · show Act.put _ (some 7) _ = _
        simp only [Act.put, List.setIfInBounds_toArray, List.set_cons_zero, List.set_cons_succ, i64_w, i32_w]
        rfl
      refine one_ (i := 19) (N := some 29) #[true, true, true, true, true, true, true, true, true, true, true, true, true, true, true, true, true, true, true, true, false, false, false, true, false, false] rfl rfl (by kernel_rfl) (by decide) (fun K hK => ?_)
      refine goes_ Try.func46 (by kernel_rfl) rfl #[.agg #[.slice AO x0.f0.length cO, .int .i64 x0.f1, .int .i64 x0.f2, .slice AI x0.f3.length cI, .bool x0.f4, .int .i64 x0.f5], .agg #[.int .i64 b.f0, .bool b.f1, .slice A2 b.f2.length k2], .int .i64 now] (by rfl) rfl rfl (by simp only [List.map_toArray, List.map_cons, List.map_nil]; rfl) ?_
      with_reducible refine (recv_lit2 HQ.out AO cO AI cI A2 k2 wx1 (Kd.V_reads' (CD.out.below hB1).o0).2.2 (Kd.V_reads' (CD.out.below hB1).i0).2.2 HL.out (AT.out.keep hB1).cc).mono ?_
      rintro e wx2 ⟨v, rfl, hE, hb⟩
      refine ⟨_, rfl, ?_⟩
      obtain ⟨A5, k5, A6, k6, rfl, hO, hI⟩ := six_read hE
      clear hE
      replace hO := Kd.V_mono hO (ok' := fun k => wd.heap.size ≤ k ∧ k ≠ wd.heap.size) (fun k hk => show wd.heap.size ≤ k ∧ k ≠ wd.heap.size from ⟨by have := hB1.size; omega, by have := heap_lt hZ; omega⟩)
      replace hI := Kd.V_mono hI (ok' := fun k => wd.heap.size ≤ k ∧ k ≠ wd.heap.size) (fun k hk => show wd.heap.size ≤ k ∧ k ≠ wd.heap.size from ⟨by have := hB1.size; omega, by have := heap_lt hZ; omega⟩)
      replace hZ := hZ.below hb
      have hB2 : Below wd.heap.size wd wx2 := bb hB1 hb
      clear hb
      refine hK.out _ _ ⟨(CD.out.below hB2).blk.c0, (CD.out.below hB2).blk.c1, (CD.out.below hB2).blk.c2, (CD.out.below hB2).blk.c3, (CD.out.below hB2).blk.c4, (CD.out.below hB2).blk.c5, (CD.out.below hB2).blk.c16, (CD.out.below hB2).blk.c12, (AT.out.keep hB2).c0, (AT.out.keep hB2).c1, (AT.out.keep hB2).c2⟩ (fun hHeld => ?_)
      clear hK K
      refine norm_ (a' := ?_) ?_ ?_
      rotate_left
      · show Act.put _ (some 29) _ = _
        simp only [Act.put, List.setIfInBounds_toArray, List.set_cons_zero, List.set_cons_succ, i64_w, i32_w]
        rfl
      refine pure_ (i := 20) (N := some 9) (v := ?_) (a' := ?_) #[true, true, true, true, true, true, true, true, true, true, true, true, true, true, true, true, true, true, true, true, true, false, false, true, false, false] rfl rfl (by kernel_rfl) (fun _ _ _ h => h) (Or.inl ⟨by rfl, ?_⟩) ?_ ?_
      rotate_left
      · intro w'
        go_simp
        with_reducible rfl
      rotate_left
      · simp only [Act.put, List.setIfInBounds_toArray, List.set_cons_zero, List.set_cons_succ, i64_w, i32_w]
        rfl
      refine pure_ (i := 21) (N := some 30) (v := ?_) (a' := ?_) #[true, true, true, true, true, true, true, true, true, true, true, true, true, true, true, true, true, true, true, true, true, true, false, true, false, false] rfl rfl (by kernel_rfl) (fun _ _ _ h => h) (Or.inl ⟨by rfl, ?_⟩) ?_ ?_
      rotate_left
      · intro w'
        go_simp
        with_reducible rfl
      rotate_left
      · simp only [Act.put, List.setIfInBounds_toArray, List.set_cons_zero, List.set_cons_succ, i64_w, i32_w]
        rfl
      refine pure_ (i := 22) (N := some 31) (v := ?_) (a' := ?_) #[true, true, true, true, true, true, true, true, true, true, true, true, true, true, true, true, true, true, true, true, true, true, true, true, false, false] rfl rfl (by kernel_rfl) (fun _ _ _ h => h) (Or.inl ⟨by rfl, ?_⟩) ?_ ?_
      rotate_left
      · intro w'
        go_simp
        with_reducible rfl
      rotate_left
      · simp only [Act.put, List.setIfInBounds_toArray, List.set_cons_zero, List.set_cons_succ, i64_w, i32_w]
        rfl
      exact norm_ (by simp only [putAll, Act.put, List.setIfInBounds_toArray, List.set_cons_zero, List.set_cons_succ] <;> rfl) (hCont (wd.heap.size, A5, k5, A6, k6) _ ⟨hB2, htle, hZ, hO, hI⟩)
  rintro ⟨t, A5, k5, A6, k6⟩ w3 ⟨hB, htle, hZ, hO, hI⟩
  have hHeld : w3.cell? ⟨g, 0, none⟩ = some (.slice AO x0.f0.length cO) ∧ w3.cell? ⟨g, 1, none⟩ = some (.int .i64 x0.f1) ∧ w3.cell? ⟨g, 2, none⟩ = some (.int .i64 x0.f2) ∧ w3.cell? ⟨g, 3, none⟩ = some (.slice AI x0.f3.length cI) ∧ w3.cell? ⟨g, 4, none⟩ = some (.bool x0.f4) ∧ w3.cell? ⟨g, 5, none⟩ = some (.int .i64 x0.f5) ∧ w3.cell? ⟨g, 16, none⟩ = some (.int .i64 now) ∧ w3.cell? ⟨g, 12, none⟩ = some (.slice (some ad) l0.length cW) ∧ w3.cell? (ad.add (i * 3)) = some (.int .i64 b.f0) ∧ w3.cell? ⟨(ad.add (i * 3)).block, (ad.add (i * 3)).off + 1, none⟩ = some (.bool b.f1) ∧ w3.cell? ⟨(ad.add (i * 3)).block, (ad.add (i * 3)).off + 2, none⟩ = some (.slice A2 b.f2.length k2) := ⟨(CD.out.below hB).blk.c0, (CD.out.below hB).blk.c1, (CD.out.below hB).blk.c2, (CD.out.below hB).blk.c3, (CD.out.below hB).blk.c4, (CD.out.below hB).blk.c5, (CD.out.below hB).blk.c16, (CD.out.below hB).blk.c12, (AT.out.keep hB).c0, (AT.out.keep hB).c1, (AT.out.keep hB).c2⟩
  refine norm_ (a' := ?_) ?_ ?_
  rotate_left
  · simp only [putAll, Act.put, List.setIfInBounds_toArray, List.set_cons_zero, List.set_cons_succ]
    rfl
  refine last_ (i := 24) (N := none) #[true, true, true, true, true, true, true, true, true, true, true, true, true, true, true, true, true, true, true, true, true, true, true, true, true, false] rfl rfl (by kernel_rfl) (by decide) (fun K hK => ?_)
  have z0 := hZ.c0; have z1 := hZ.c1; have z2 := hZ.c2; have z3 := hZ.c3; have z4 := hZ.c4; have z5 := hZ.c5; have y := blk_frozen hZ
  refine skip_ (w1 := ?_) (by rfl) rfl ?_ ?_
  rotate_left
  · go_simp
    rfl
  obtain ⟨w4, hw9, Z9, F9⟩ := six hZ (.slice A5 x.f0.length k5) x.f1 x.f2 (.slice A6 x.f3.length k6) x.f4 x.f5
  rw [← hw9]
  clear hw9 z0 z1 z2 z3 z4 z5 y
  refine hK.out _ _ ?_
  clear hK K
  refine pure_ (i := 25) (N := some 8) (v := ?_) (a' := ?_) #[true, true, true, true, true, true, true, true, true, true, true, true, true, true, true, true, true, true, true, true, true, true, true, true, true, true] rfl rfl (by kernel_rfl) (fun _ _ _ h => h) (Or.inl ⟨by rfl, ?_⟩) ?_ ?_
  rotate_left
  · intro w'
    go_simp
    with_reducible rfl
  rotate_left
  · simp only [Act.put, List.setIfInBounds_toArray, List.set_cons_zero, List.set_cons_succ, i64_w, i32_w]
    rfl
  refine done_ (by kernel_rfl) ?_

  have hB4 : Below wd.heap.size wd w4 := Fr.below F9 hB (Nat.le_refl _) (fun k hk => by omega)
  have C4 := Lib.hid (CD.out.below hB4)
  have O4 := Lib.hid (Kd.V_mono (Kd.V_step hO (fun k hk hlt => F9.same k hlt hk.2)) (fun k hk => CD.out.fresh hk.1))
  have I4 := Lib.hid (Kd.V_mono (Kd.V_step hI (fun k hk hlt => F9.same k hlt hk.2)) (fun k hk => CD.out.fresh hk.1))
  have Z4 := Lib.hid Z9
  have B4 := Lib.hid (bb HWS.out hB4)
  clear hO hI F9 hB hB4 hZ Z9 htle hHeld HQ
  by_cases hr : r = 0
  · subst hr
    go_wp2_with fail
    replace C4 := Lib.hid (C4.out.below (below_drew (Below.refl _ _))); replace O4 := Lib.hid (Kd.V_drew O4.out); replace I4 := Lib.hid (Kd.V_drew I4.out); replace Z4 := Lib.hid (Z4.out.below (below_drew (Below.refl _ _)))
    refine start_ (n := 7) (S := fun w' => w'.cell? ⟨t, 0, none⟩ = some (.slice A5 x.f0.length k5) ∧ w'.cell? ⟨t, 1, none⟩ = some (.int .i64 x.f1) ∧ w'.cell? ⟨t, 2, none⟩ = some (.int .i64 x.f2) ∧ w'.cell? ⟨t, 3, none⟩ = some (.slice A6 x.f3.length k6) ∧ w'.cell? ⟨t, 4, none⟩ = some (.bool x.f4) ∧ w'.cell? ⟨t, 5, none⟩ = some (.int .i64 x.f5)) (ds := [6]) #[false, false, false, false, false, false, false] (by kernel_rfl) rfl rfl ⟨Z4.out.c0, Z4.out.c1, Z4.out.c2, Z4.out.c3, Z4.out.c4, Z4.out.c5⟩ (fun hHeld => ?_)
    generalize w4.drew = w5 at C4 O4 I4 Z4 hHeld ⊢
    refine pure_ (i := 0) (N := some 34) (v := ?_) (a' := ?_) #[true, false, false, false, false, false, false] rfl rfl (by kernel_rfl) (fun _ _ _ h => h) (Or.inl ⟨by rfl, ?_⟩) ?_ ?_
    rotate_left
    · intro w'
      go_simp
      with_reducible rfl
    rotate_left
    · simp only [Act.put, List.setIfInBounds_toArray, List.set_cons_zero, List.set_cons_succ, i64_w, i32_w]
      rfl
    refine pure_ (i := 1) (N := some 35) (v := ?_) (a' := ?_) #[true, true, false, false, false, false, false] rfl rfl (by kernel_rfl) (fun _ _ _ h => h) (Or.inl ⟨by rfl, ?_⟩) ?_ ?_
    rotate_left
    · intro w'
      go_simp
      with_reducible rfl
    rotate_left
    · simp only [Act.put, List.setIfInBounds_toArray, List.set_cons_zero, List.set_cons_succ, i64_w, i32_w]
      rfl
    refine pure_ (i := 3) (N := some 37) (v := ?_) (a' := ?_) #[true, true, false, true, false, false, false] rfl rfl (by kernel_rfl) (fun _ _ _ h => h) (Or.inl ⟨by rfl, ?_⟩) ?_ ?_
    rotate_left
    · intro w'
      go_simp
      with_reducible rfl
    rotate_left
    · simp only [Act.put, List.setIfInBounds_toArray, List.set_cons_zero, List.set_cons_succ, i64_w, i32_w]
      rfl
    refine pure_ (i := 4) (N := some 38) (v := ?_) (a' := ?_) #[true, true, false, true, true, false, false] rfl rfl (by kernel_rfl) (fun _ _ _ h => h) (Or.inl ⟨by rfl, ?_⟩) ?_ ?_
    rotate_left
    · intro w'
      go_simp
      with_reducible rfl
    rotate_left
    · simp only [Act.put, List.setIfInBounds_toArray, List.set_cons_zero, List.set_cons_succ, i64_w, i32_w]
      rfl
    refine take_ (i := 2) (N := some 36) (v := ?_) (a' := ?_) #[true, true, true, true, true, false, false] rfl rfl (by kernel_rfl) (fun _ _ _ h => h) (Or.inl ⟨by rfl, ?_⟩) hHeld ?_ ?_
    rotate_left
    · rintro w' ⟨s0, s1, s2, s3, s4, s5⟩
      go_simp
      with_reducible rfl
    rotate_left
    · simp only [Act.put, List.setIfInBounds_toArray, List.set_cons_zero, List.set_cons_succ, i64_w, i32_w]
      rfl
    refine pure_ (i := 5) (N := some 39) (v := ?_) (a' := ?_) #[true, true, true, true, true, true, false] rfl rfl (by kernel_rfl) (fun _ _ _ h => h) (Or.inl ⟨by rfl, ?_⟩) ?_ ?_
    rotate_left
    · intro w'
      go_simp
      with_reducible rfl
    rotate_left
    · simp only [Act.put, List.setIfInBounds_toArray, List.set_cons_zero, List.set_cons_succ, i64_w, i32_w]
      rfl
    refine last_ (i := 6) (N := none) #[true, true, true, true, true, true, true] rfl rfl (by kernel_rfl) (by decide) (fun K hK => ?_)
    have z0 := C4.out.blk.c0; have z1 := C4.out.blk.c1; have z2 := C4.out.blk.c2; have z3 := C4.out.blk.c3; have z4 := C4.out.blk.c4; have z5 := C4.out.blk.c5; have y := blk_frozen C4.out.blk
    refine skip_ (w1 := ?_) (by rfl) rfl ?_ ?_
    rotate_left
    · go_simp
      rfl
    obtain ⟨w6, hw9, hB9, F9⟩ := C4.out.blk.end0 (.slice A5 x.f0.length k5) (.slice A6 x.f3.length k6) x
    rw [← hw9]
    clear hw9 z0 z1 z2 z3 z4 z5 y
    refine hK.out _ _ ?_
    clear hK K
    refine done_ (by kernel_rfl) ?_

    have C6 := Lib.hid (C4.out.set0 F9 hB9 O4.out I4.out)
    clear C4 O4 I4 Z4 F9 hB9 hHeld
    go_wp2_with fail
    go_ret
    exact ⟨rfl, .slice A5 x.f0.length k5, .slice A6 x.f3.length k6, C6.out⟩
  · have hz : (r != 0) = true := by simpa using hr
    have HRN := Lib.hid hr
    clear hr
    go_wp2_with fail
    go_ret
    exact Or.inl ⟨HRN.out, rfl, B4.out⟩
set_option maxHeartbeats 16000000 in
set_option maxRecDepth 100000 in
theorem delCh1 (w W : World) (g : Nat) (vo0 vi0 : Value) (x0 : S61) (vo1 vi1 : Value) (x1 : S61) (w0 w1 : Value) (l0 l1 : List S83) (p0 p1 : Value) (r0 r1 : List S39) (now : Int) (h : Chan w W g vo0 vi0 x0 vo1 vi1 x1 w0 w1 l0 l1 p0 p1 r0 r1 now) (hl : x1.f3.length ≤ 1000000) (i : Nat) (hi : i < l1.length) (hw : l1.length ≤ 1000000) (b : S83) (hbi : l1[i]'hi = b) (x : S61) (r : Int) (heq : recvF x1 b now = (x, r)) :
    Calls Try.prog 37 #[.pointer (some ⟨g, 0, none⟩), .int .i64 1, .int .i64 i] W fun e W' => (r ≠ 0 ∧ e = .returned (.bool false) ∧ Below W.heap.size W W') ∨ (r = 0 ∧ e = .returned (.bool true) ∧ ∃ vo vi, Chan w W' g vo0 vi0 x0 vo vi x w0 w1 l0 l1 p0 p1 r0 r1 now) := by
  obtain ⟨AO, cO, hvo⟩ := Kd.V_slice h.o1
  obtain ⟨AI, cI, hvi⟩ := Kd.V_slice h.i1
  obtain ⟨AW, cW, hvw⟩ := Kd.R_slice h.ww1
  subst hvo hvi hvw
  obtain ⟨ad, A2, k2, hA, hat⟩ := B83_cell (Kd.R_reads' h.ww1).2.2 i hi hi
  subst hA
  replace hat : AtB83 W (ad.add (i * 3)) b A2 k2 := by rw [← hbi]; exact hat
  have C := Lib.hid h; have HL := Lib.hid hl; have HQ := Lib.hid heq; have HI := Lib.hid hi; have AT0 := Lib.hid hat
  have i0 : (0 : Int) ≤ (i : Int) := by omega
  have i1 : (i : Int) < (l1.length : Int) := by omega
  clear h hl heq hbi hat hi hw
  go_enter Try.func37, Try.ntmps37
  go_wp2_with fail
  have HWS := Lib.hid (show Below W.heap.size W W.drew from below_drew (Below.refl _ _))
  have CD := Lib.hid (C.out.below (below_drew (Below.refl _ _)))
  have AT := Lib.hid (AT0.out.keep (below_drew (Below.refl _ _)))
  clear AT0
  refine start_ (n := 26) (S := fun w' => w'.cell? ⟨g, 6, none⟩ = some (.slice AO x1.f0.length cO) ∧ w'.cell? ⟨g, 7, none⟩ = some (.int .i64 x1.f1) ∧ w'.cell? ⟨g, 8, none⟩ = some (.int .i64 x1.f2) ∧ w'.cell? ⟨g, 9, none⟩ = some (.slice AI x1.f3.length cI) ∧ w'.cell? ⟨g, 10, none⟩ = some (.bool x1.f4) ∧ w'.cell? ⟨g, 11, none⟩ = some (.int .i64 x1.f5) ∧ w'.cell? ⟨g, 16, none⟩ = some (.int .i64 now) ∧ w'.cell? ⟨g, 13, none⟩ = some (.slice (some ad) l1.length cW) ∧ w'.cell? (ad.add (i * 3)) = some (.int .i64 b.f0) ∧ w'.cell? ⟨(ad.add (i * 3)).block, (ad.add (i * 3)).off + 1, none⟩ = some (.bool b.f1) ∧ w'.cell? ⟨(ad.add (i * 3)).block, (ad.add (i * 3)).off + 2, none⟩ = some (.slice A2 b.f2.length k2)) (ds := [24]) #[false, false, false, false, false, false, false, false, false, false, false, false, false, false, false, false, false, false, false, false, false, false, false, false, false, false] (by kernel_rfl) rfl rfl ⟨CD.out.blk.c6, CD.out.blk.c7, CD.out.blk.c8, CD.out.blk.c9, CD.out.blk.c10, CD.out.blk.c11, CD.out.blk.c16, CD.out.blk.c13, AT.out.c0, AT.out.c1, AT.out.c2⟩ (fun hHeld => ?_)
  generalize W.drew = wd at CD AT HWS hHeld ⊢
  refine pure_ (i := 0) (N := some 10) (v := ?_) (a' := ?_) #[true, false, false, false, false, false, false, false, false, false, false, false, false, false, false, false, false, false, false, false, false, false, false, false, false, false] rfl rfl (by kernel_rfl) (fun _ _ _ h => h) (Or.inl ⟨by rfl, ?_⟩) ?_ ?_
  rotate_left
  · intro w'
    go_simp
    with_reducible rfl
  rotate_left
  · simp only [Act.put, List.setIfInBounds_toArray, List.set_cons_zero, List.set_cons_succ, i64_w, i32_w]
    rfl
  refine pure_ (i := 1) (N := some 11) (v := ?_) (a' := ?_) #[true, true, false, false, false, false, false, false, false, false, false, false, false, false, false, false, false, false, false, false, false, false, false, false, false, false] rfl rfl (by kernel_rfl) (fun _ _ _ h => h) (Or.inl ⟨by rfl, ?_⟩) ?_ ?_
  rotate_left
  · intro w'
    go_simp
    with_reducible rfl
  rotate_left
  · simp only [Act.put, List.setIfInBounds_toArray, List.set_cons_zero, List.set_cons_succ, i64_w, i32_w]
    rfl
  refine pure_ (i := 2) (N := some 12) (v := ?_) (a' := ?_) #[true, true, true, false, false, false, false, false, false, false, false, false, false, false, false, false, false, false, false, false, false, false, false, false, false, false] rfl rfl (by kernel_rfl) (fun _ _ _ h => h) (Or.inl ⟨by rfl, ?_⟩) ?_ ?_
  rotate_left
  · intro w'
    go_simp
    with_reducible rfl
  rotate_left
  · simp only [Act.put, List.setIfInBounds_toArray, List.set_cons_zero, List.set_cons_succ, i64_w, i32_w]
    rfl
  refine pure_ (i := 3) (N := some 13) (v := ?_) (a' := ?_) #[true, true, true, true, false, false, false, false, false, false, false, false, false, false, false, false, false, false, false, false, false, false, false, false, false, false] rfl rfl (by kernel_rfl) (fun _ _ _ h => h) (Or.inl ⟨by rfl, ?_⟩) ?_ ?_
  rotate_left
  · intro w'
    go_simp
    with_reducible rfl
  rotate_left
  · simp only [Act.put, List.setIfInBounds_toArray, List.set_cons_zero, List.set_cons_succ, i64_w, i32_w]
    rfl
  refine pure_ (i := 4) (N := some 14) (v := ?_) (a' := ?_) #[true, true, true, true, true, false, false, false, false, false, false, false, false, false, false, false, false, false, false, false, false, false, false, false, false, false] rfl rfl (by kernel_rfl) (fun _ _ _ h => h) (Or.inl ⟨by rfl, ?_⟩) ?_ ?_
  rotate_left
  · intro w'
    go_simp
    with_reducible rfl
  rotate_left
  · simp only [Act.put, List.setIfInBounds_toArray, List.set_cons_zero, List.set_cons_succ, i64_w, i32_w]
    rfl
  refine pure_ (i := 6) (N := some 16) (v := ?_) (a' := ?_) #[true, true, true, true, true, false, true, false, false, false, false, false, false, false, false, false, false, false, false, false, false, false, false, false, false, false] rfl rfl (by kernel_rfl) (fun _ _ _ h => h) (Or.inl ⟨by rfl, ?_⟩) ?_ ?_
  rotate_left
  · intro w'
    go_simp
    with_reducible rfl
  rotate_left
  · simp only [Act.put, List.setIfInBounds_toArray, List.set_cons_zero, List.set_cons_succ, i64_w, i32_w]
    rfl
  refine pure_ (i := 7) (N := some 17) (v := ?_) (a' := ?_) #[true, true, true, true, true, false, true, true, false, false, false, false, false, false, false, false, false, false, false, false, false, false, false, false, false, false] rfl rfl (by kernel_rfl) (fun _ _ _ h => h) (Or.inl ⟨by rfl, ?_⟩) ?_ ?_
  rotate_left
  · intro w'
    go_simp
    with_reducible rfl
  rotate_left
  · simp only [Act.put, List.setIfInBounds_toArray, List.set_cons_zero, List.set_cons_succ, i64_w, i32_w]
    rfl
  refine pure_ (i := 8) (N := some 18) (v := ?_) (a' := ?_) #[true, true, true, true, true, false, true, true, true, false, false, false, false, false, false, false, false, false, false, false, false, false, false, false, false, false] rfl rfl (by kernel_rfl) (fun _ _ _ h => h) (Or.inl ⟨by rfl, ?_⟩) ?_ ?_
  rotate_left
  · intro w'
    go_simp
    with_reducible rfl
  rotate_left
  · simp only [Act.put, List.setIfInBounds_toArray, List.set_cons_zero, List.set_cons_succ, i64_w, i32_w]
    rfl
  refine pure_ (i := 9) (N := some 19) (v := ?_) (a' := ?_) #[true, true, true, true, true, false, true, true, true, true, false, false, false, false, false, false, false, false, false, false, false, false, false, false, false, false] rfl rfl (by kernel_rfl) (fun _ _ _ h => h) (Or.inl ⟨by rfl, ?_⟩) ?_ ?_
  rotate_left
  · intro w'
    go_simp
    with_reducible rfl
  rotate_left
  · simp only [Act.put, List.setIfInBounds_toArray, List.set_cons_zero, List.set_cons_succ, i64_w, i32_w]
    rfl
  refine pure_ (i := 10) (N := some 20) (v := ?_) (a' := ?_) #[true, true, true, true, true, false, true, true, true, true, true, false, false, false, false, false, false, false, false, false, false, false, false, false, false, false] rfl rfl (by kernel_rfl) (fun _ _ _ h => h) (Or.inl ⟨by rfl, ?_⟩) ?_ ?_
  rotate_left
  · intro w'
    go_simp
    with_reducible rfl
  rotate_left
  · simp only [Act.put, List.setIfInBounds_toArray, List.set_cons_zero, List.set_cons_succ, i64_w, i32_w]
    rfl
  refine pure_ (i := 12) (N := some 22) (v := ?_) (a' := ?_) #[true, true, true, true, true, false, true, true, true, true, true, false, true, false, false, false, false, false, false, false, false, false, false, false, false, false] rfl rfl (by kernel_rfl) (fun _ _ _ h => h) (Or.inl ⟨by rfl, ?_⟩) ?_ ?_
  rotate_left
  · intro w'
    go_simp
    with_reducible rfl
  rotate_left
  · simp only [Act.put, List.setIfInBounds_toArray, List.set_cons_zero, List.set_cons_succ, i64_w, i32_w]
    rfl
  refine pure_ (i := 15) (N := some 25) (v := ?_) (a' := ?_) #[true, true, true, true, true, false, true, true, true, true, true, false, true, false, false, true, false, false, false, false, false, false, false, false, false, false] rfl rfl (by kernel_rfl) (fun _ _ _ h => h) (Or.inl ⟨by rfl, ?_⟩) ?_ ?_
  rotate_left
  · intro w'
    go_simp
    with_reducible rfl
  rotate_left
  · simp only [Act.put, List.setIfInBounds_toArray, List.set_cons_zero, List.set_cons_succ, i64_w, i32_w]
    rfl
  refine pure_ (i := 16) (N := some 26) (v := ?_) (a' := ?_) #[true, true, true, true, true, false, true, true, true, true, true, false, true, false, false, true, true, false, false, false, false, false, false, false, false, false] rfl rfl (by kernel_rfl) (fun _ _ _ h => h) (Or.inl ⟨by rfl, ?_⟩) ?_ ?_
  rotate_left
  · intro w'
    go_simp
    with_reducible rfl
  rotate_left
  · simp only [Act.put, List.setIfInBounds_toArray, List.set_cons_zero, List.set_cons_succ, i64_w, i32_w]
    rfl
  refine pure_ (i := 17) (N := some 27) (v := ?_) (a' := ?_) #[true, true, true, true, true, false, true, true, true, true, true, false, true, false, false, true, true, true, false, false, false, false, false, false, false, false] rfl rfl (by kernel_rfl) (fun _ _ _ h => h) (Or.inl ⟨by rfl, ?_⟩) ?_ ?_
  rotate_left
  · intro w'
    go_simp
    with_reducible rfl
  rotate_left
  · simp only [Act.put, List.setIfInBounds_toArray, List.set_cons_zero, List.set_cons_succ, i64_w, i32_w]
    rfl
  refine take_ (i := 5) (N := some 15) (v := ?_) (a' := ?_) #[true, true, true, true, true, true, true, true, true, true, true, false, true, false, false, true, true, true, false, false, false, false, false, false, false, false] rfl rfl (by kernel_rfl) (fun _ _ _ h => h) (Or.inl ⟨by rfl, ?_⟩) hHeld ?_ ?_
  rotate_left
  · rintro w' ⟨s0, s1, s2, s3, s4, s5, s6, s7, s8, s9, s10⟩
    go_simp
    with_reducible rfl
  rotate_left
  · simp only [Act.put, List.setIfInBounds_toArray, List.set_cons_zero, List.set_cons_succ, i64_w, i32_w]
    rfl
  refine take_ (i := 11) (N := some 21) (v := ?_) (a' := ?_) #[true, true, true, true, true, true, true, true, true, true, true, true, true, false, false, true, true, true, false, false, false, false, false, false, false, false] rfl rfl (by kernel_rfl) (fun _ _ _ h => h) (Or.inl ⟨by rfl, ?_⟩) hHeld ?_ ?_
  rotate_left
  · rintro w' ⟨s0, s1, s2, s3, s4, s5, s6, s7, s8, s9, s10⟩
    go_simp
    with_reducible rfl
  rotate_left
  · simp only [Act.put, List.setIfInBounds_toArray, List.set_cons_zero, List.set_cons_succ, i64_w, i32_w]
    rfl
  refine pure_ (i := 13) (N := some 23) (v := ?_) (a' := ?_) #[true, true, true, true, true, true, true, true, true, true, true, true, true, true, false, true, true, true, false, false, false, false, false, false, false, false] rfl rfl (by kernel_rfl) (fun _ _ _ h => h) (Or.inl ⟨by rfl, ?_⟩) ?_ ?_
  rotate_left
  · intro w'
    go_simp
    with_reducible rfl
  rotate_left
  · simp only [Act.put, List.setIfInBounds_toArray, List.set_cons_zero, List.set_cons_succ, i64_w, i32_w]
    rfl
  refine take_ (i := 14) (N := some 24) (v := ?_) (a' := ?_) #[true, true, true, true, true, true, true, true, true, true, true, true, true, true, true, true, true, true, false, false, false, false, false, false, false, false] rfl rfl (by kernel_rfl) (fun _ _ _ h => h) (Or.inl ⟨by rfl, ?_⟩) hHeld ?_ ?_
  rotate_left
  · rintro w' ⟨s0, s1, s2, s3, s4, s5, s6, s7, s8, s9, s10⟩
    go_simp
    with_reducible rfl
  rotate_left
  · simp only [Act.put, List.setIfInBounds_toArray, List.set_cons_zero, List.set_cons_succ, i64_w, i32_w]
    rfl
  refine take_ (i := 18) (N := some 28) (v := ?_) (a' := ?_) #[true, true, true, true, true, true, true, true, true, true, true, true, true, true, true, true, true, true, true, false, false, false, false, false, false, false] rfl rfl (by kernel_rfl) (fun _ _ _ h => h) (Or.inl ⟨by rfl, ?_⟩) hHeld ?_ ?_
  rotate_left
  · rintro w' ⟨s0, s1, s2, s3, s4, s5, s6, s7, s8, s9, s10⟩
    go_simp
    with_reducible rfl
  rotate_left
  · simp only [Act.put, List.setIfInBounds_toArray, List.set_cons_zero, List.set_cons_succ, i64_w, i32_w]
    rfl
  refine join_ (σ := Nat × Option Addr × Nat × Option Addr × Nat) 2 #[true, true, true, true, true, true, true, true, true, true, true, true, true, true, true, true, true, true, true, true, true, true, true, true, false, false] (fun s => [(29, .tuple #[.agg #[.slice s.2.1 x.f0.length s.2.2.1, .int .i64 x.f1, .int .i64 x.f2, .slice s.2.2.2.1 x.f3.length s.2.2.2.2, .bool x.f4, .int .i64 x.f5], .int .i64 r]), (7, .pointer (some ⟨s.1, 0, none⟩)), (9, .tuple #[.agg #[.slice s.2.1 x.f0.length s.2.2.1, .int .i64 x.f1, .int .i64 x.f2, .slice s.2.2.2.1 x.f3.length s.2.2.2.2, .bool x.f4, .int .i64 x.f5], .int .i64 r]), (30, .agg #[.slice s.2.1 x.f0.length s.2.2.1, .int .i64 x.f1, .int .i64 x.f2, .slice s.2.2.2.1 x.f3.length s.2.2.2.2, .bool x.f4, .int .i64 x.f5]), (31, .int .i64 r)]) (fun s w' => Below wd.heap.size wd w' ∧ wd.heap.size ≤ s.1 ∧ EBlk w' s.1 61 (.slice none 0 0) 0 0 (.slice none 0 0) false 0 ∧ Kd.V kL 28 w' 0 (fun k => wd.heap.size ≤ k ∧ k ≠ s.1) (.slice s.2.1 x.f0.length s.2.2.1) x.f0 ∧ Kd.V k39 39 w' 0 (fun k => wd.heap.size ≤ k ∧ k ≠ s.1) (.slice s.2.2.2.1 x.f3.length s.2.2.2.2) x.f3) ?_ ?_
  rotate_left
  · intro hCont
    refine two_ (i := 19) (j := 23) (Ni := some 29) (Nj := some 7) #[true, true, true, true, true, true, true, true, true, true, true, true, true, true, true, true, true, true, true, true, false, false, false, false, false, false] #[true, true, true, true, true, true, true, true, true, true, true, true, true, true, true, true, true, true, true, false, false, false, false, true, false, false] rfl rfl rfl rfl (by kernel_rfl) (by decide) (by decide) (fun K hK => ?_) (fun K hK => ?_)
    · skip
      refine goes_ Try.func46 (by kernel_rfl) rfl #[.agg #[.slice AO x1.f0.length cO, .int .i64 x1.f1, .int .i64 x1.f2, .slice AI x1.f3.length cI, .bool x1.f4, .int .i64 x1.f5], .agg #[.int .i64 b.f0, .bool b.f1, .slice A2 b.f2.length k2], .int .i64 now] (by rfl) rfl rfl (by simp only [List.map_toArray, List.map_cons, List.map_nil]; rfl) ?_
      with_reducible refine (recv_lit2 HQ.out AO cO AI cI A2 k2 wd (Kd.V_reads' (CD.out.below (Below.refl _ _)).o1).2.2 (Kd.V_reads' (CD.out.below (Below.refl _ _)).i1).2.2 HL.out (AT.out.keep (Below.refl _ _)).cc).mono ?_
      rintro e wx1 ⟨v, rfl, hE, hb⟩
      refine ⟨_, rfl, ?_⟩
      obtain ⟨A5, k5, A6, k6, rfl, hO, hI⟩ := six_read hE
      clear hE
      have hB1 : Below wd.heap.size wd wx1 := hb
      clear hb
      refine hK.out _ _ ⟨(CD.out.below hB1).blk.c6, (CD.out.below hB1).blk.c7, (CD.out.below hB1).blk.c8, (CD.out.below hB1).blk.c9, (CD.out.below hB1).blk.c10, (CD.out.below hB1).blk.c11, (CD.out.below hB1).blk.c16, (CD.out.below hB1).blk.c13, (AT.out.keep hB1).c0, (AT.out.keep hB1).c1, (AT.out.keep hB1).c2⟩ (fun hHeld => ?_)
      clear hK K
      refine norm_ (a' := ?_) ?_ ?_
      rotate_left
      · show Act.put _ (some 29) _ = _
        simp only [Act.put, List.setIfInBounds_toArray, List.set_cons_zero, List.set_cons_succ, i64_w, i32_w]
        rfl
      refine pure_ (i := 20) (N := some 9) (v := ?_) (a' := ?_) #[true, true, true, true, true, true, true, true, true, true, true, true, true, true, true, true, true, true, true, true, true, false, false, false, false, false] rfl rfl (by kernel_rfl) (fun _ _ _ h => h) (Or.inl ⟨by rfl, ?_⟩) ?_ ?_
      rotate_left
      · intro w'
        go_simp
        with_reducible rfl
      rotate_left
      · simp only [Act.put, List.setIfInBounds_toArray, List.set_cons_zero, List.set_cons_succ, i64_w, i32_w]
        rfl
      refine pure_ (i := 21) (N := some 30) (v := ?_) (a' := ?_) #[true, true, true, true, true, true, true, true, true, true, true, true, true, true, true, true, true, true, true, true, true, true, false, false, false, false] rfl rfl (by kernel_rfl) (fun _ _ _ h => h) (Or.inl ⟨by rfl, ?_⟩) ?_ ?_
      rotate_left
      · intro w'
        go_simp
        with_reducible rfl
      rotate_left
      · simp only [Act.put, List.setIfInBounds_toArray, List.set_cons_zero, List.set_cons_succ, i64_w, i32_w]
        rfl
      refine pure_ (i := 22) (N := some 31) (v := ?_) (a' := ?_) #[true, true, true, true, true, true, true, true, true, true, true, true, true, true, true, true, true, true, true, true, true, true, true, false, false, false] rfl rfl (by kernel_rfl) (fun _ _ _ h => h) (Or.inl ⟨by rfl, ?_⟩) ?_ ?_
      rotate_left
      · intro w'
        go_simp
        with_reducible rfl
      rotate_left
      · simp only [Act.put, List.setIfInBounds_toArray, List.set_cons_zero, List.set_cons_succ, i64_w, i32_w]
        rfl
      refine one_ (i := 23) (N := some 7) #[true, true, true, true, true, true, true, true, true, true, true, true, true, true, true, true, true, true, true, true, true, true, true, true, false, false] rfl rfl (by kernel_rfl) (by decide) (fun K hK => ?_)
      refine value_ (w1 := ?_) (v := ?_) (by rfl) rfl ?_ ?_
      rotate_left 2
      · go_simp
        constructor
        all_goals rfl
      have hB2 : Below wd.heap.size wd (wx1.alloc (.cells #[.slice none 0 0, .int .i64 0, .int .i64 0, .slice none 0 0, .bool false, .int .i64 0] 61)) := al hB1 _
      have hZ := EBlk.new wx1 61 (.slice none 0 0) (.slice none 0 0) 0 0 0 false
      have htle : wd.heap.size ≤ wx1.heap.size := hB1.size
      replace hO := Kd.V_mono (Kd.V_alloc (Kd.V_bound hO) (.cells #[.slice none 0 0, .int .i64 0, .int .i64 0, .slice none 0 0, .bool false, .int .i64 0] 61)) (fun k hk => show wd.heap.size ≤ k ∧ k ≠ wx1.heap.size from ⟨hk.1, by have := hk.2; omega⟩)
      replace hI := Kd.V_mono (Kd.V_alloc (Kd.V_bound hI) (.cells #[.slice none 0 0, .int .i64 0, .int .i64 0, .slice none 0 0, .bool false, .int .i64 0] 61)) (fun k hk => show wd.heap.size ≤ k ∧ k ≠ wx1.heap.size from ⟨hk.1, by have := hk.2; omega⟩)
      generalize wx1.alloc (.cells #[.slice none 0 0, .int .i64 0, .int .i64 0, .slice none 0 0, .bool false, .int .i64 0] 61) = wx2 at hB2 hZ hO hI ⊢
      refine hK.out _ _ ⟨(CD.out.below hB2).blk.c6, (CD.out.below hB2).blk.c7, (CD.out.below hB2).blk.c8, (CD.out.below hB2).blk.c9, (CD.out.below hB2).blk.c10, (CD.out.below hB2).blk.c11, (CD.out.below hB2).blk.c16, (CD.out.below hB2).blk.c13, (AT.out.keep hB2).c0, (AT.out.keep hB2).c1, (AT.out.keep hB2).c2⟩ (fun hHeld => ?_)
      clear hK K
      refine norm_ (a' := ?_) ?_ ?_
      rotate_left
      · show Act.put _ (some 7) _ = _
        simp only [Act.put, List.setIfInBounds_toArray, List.set_cons_zero, List.set_cons_succ, i64_w, i32_w]
        rfl
      exact norm_ (by simp only [putAll, Act.put, List.setIfInBounds_toArray, List.set_cons_zero, List.set_cons_succ] <;> rfl) (hCont (wx1.heap.size, A5, k5, A6, k6) _ ⟨hB2, htle, hZ, hO, hI⟩)
    · skip
      refine value_ (w1 := ?_) (v := ?_) (by rfl) rfl ?_ ?_
      rotate_left 2
      · go_simp
        constructor
        all_goals rfl
      have hB1 : Below wd.heap.size wd (wd.alloc (.cells #[.slice none 0 0, .int .i64 0, .int .i64 0, .slice none 0 0, .bool false, .int .i64 0] 61)) := below_one _ _
      have hZ := EBlk.new wd 61 (.slice none 0 0) (.slice none 0 0) 0 0 0 false
      have htle : wd.heap.size ≤ wd.heap.size := Nat.le_refl _
      generalize wd.alloc (.cells #[.slice none 0 0, .int .i64 0, .int .i64 0, .slice none 0 0, .bool false, .int .i64 0] 61) = wx1 at hB1 hZ ⊢
      refine hK.out _ _ ⟨(CD.out.below hB1).blk.c6, (CD.out.below hB1).blk.c7, (CD.out.below hB1).blk.c8, (CD.out.below hB1).blk.c9, (CD.out.below hB1).blk.c10, (CD.out.below hB1).blk.c11, (CD.out.below hB1).blk.c16, (CD.out.below hB1).blk.c13, (AT.out.keep hB1).c0, (AT.out.keep hB1).c1, (AT.out.keep hB1).c2⟩ (fun hHeld => ?_)
      clear hK K
      refine norm_ (a' := ?_) ?_ ?_
      rotate_left
      · show Act.put _ (some 7) _ = _
        simp only [Act.put, List.setIfInBounds_toArray, List.set_cons_zero, List.set_cons_succ, i64_w, i32_w]
        rfl
      refine one_ (i := 19) (N := some 29) #[true, true, true, true, true, true, true, true, true, true, true, true, true, true, true, true, true, true, true, true, false, false, false, true, false, false] rfl rfl (by kernel_rfl) (by decide) (fun K hK => ?_)
      refine goes_ Try.func46 (by kernel_rfl) rfl #[.agg #[.slice AO x1.f0.length cO, .int .i64 x1.f1, .int .i64 x1.f2, .slice AI x1.f3.length cI, .bool x1.f4, .int .i64 x1.f5], .agg #[.int .i64 b.f0, .bool b.f1, .slice A2 b.f2.length k2], .int .i64 now] (by rfl) rfl rfl (by simp only [List.map_toArray, List.map_cons, List.map_nil]; rfl) ?_
      with_reducible refine (recv_lit2 HQ.out AO cO AI cI A2 k2 wx1 (Kd.V_reads' (CD.out.below hB1).o1).2.2 (Kd.V_reads' (CD.out.below hB1).i1).2.2 HL.out (AT.out.keep hB1).cc).mono ?_
      rintro e wx2 ⟨v, rfl, hE, hb⟩
      refine ⟨_, rfl, ?_⟩
      obtain ⟨A5, k5, A6, k6, rfl, hO, hI⟩ := six_read hE
      clear hE
      replace hO := Kd.V_mono hO (ok' := fun k => wd.heap.size ≤ k ∧ k ≠ wd.heap.size) (fun k hk => show wd.heap.size ≤ k ∧ k ≠ wd.heap.size from ⟨by have := hB1.size; omega, by have := heap_lt hZ; omega⟩)
      replace hI := Kd.V_mono hI (ok' := fun k => wd.heap.size ≤ k ∧ k ≠ wd.heap.size) (fun k hk => show wd.heap.size ≤ k ∧ k ≠ wd.heap.size from ⟨by have := hB1.size; omega, by have := heap_lt hZ; omega⟩)
      replace hZ := hZ.below hb
      have hB2 : Below wd.heap.size wd wx2 := bb hB1 hb
      clear hb
      refine hK.out _ _ ⟨(CD.out.below hB2).blk.c6, (CD.out.below hB2).blk.c7, (CD.out.below hB2).blk.c8, (CD.out.below hB2).blk.c9, (CD.out.below hB2).blk.c10, (CD.out.below hB2).blk.c11, (CD.out.below hB2).blk.c16, (CD.out.below hB2).blk.c13, (AT.out.keep hB2).c0, (AT.out.keep hB2).c1, (AT.out.keep hB2).c2⟩ (fun hHeld => ?_)
      clear hK K
      refine norm_ (a' := ?_) ?_ ?_
      rotate_left
      · show Act.put _ (some 29) _ = _
        simp only [Act.put, List.setIfInBounds_toArray, List.set_cons_zero, List.set_cons_succ, i64_w, i32_w]
        rfl
      refine pure_ (i := 20) (N := some 9) (v := ?_) (a' := ?_) #[true, true, true, true, true, true, true, true, true, true, true, true, true, true, true, true, true, true, true, true, true, false, false, true, false, false] rfl rfl (by kernel_rfl) (fun _ _ _ h => h) (Or.inl ⟨by rfl, ?_⟩) ?_ ?_
      rotate_left
      · intro w'
        go_simp
        with_reducible rfl
      rotate_left
      · simp only [Act.put, List.setIfInBounds_toArray, List.set_cons_zero, List.set_cons_succ, i64_w, i32_w]
        rfl
      refine pure_ (i := 21) (N := some 30) (v := ?_) (a' := ?_) #[true, true, true, true, true, true, true, true, true, true, true, true, true, true, true, true, true, true, true, true, true, true, false, true, false, false] rfl rfl (by kernel_rfl) (fun _ _ _ h => h) (Or.inl ⟨by rfl, ?_⟩) ?_ ?_
      rotate_left
      · intro w'
        go_simp
        with_reducible rfl
      rotate_left
      · simp only [Act.put, List.setIfInBounds_toArray, List.set_cons_zero, List.set_cons_succ, i64_w, i32_w]
        rfl
      refine pure_ (i := 22) (N := some 31) (v := ?_) (a' := ?_) #[true, true, true, true, true, true, true, true, true, true, true, true, true, true, true, true, true, true, true, true, true, true, true, true, false, false] rfl rfl (by kernel_rfl) (fun _ _ _ h => h) (Or.inl ⟨by rfl, ?_⟩) ?_ ?_
      rotate_left
      · intro w'
        go_simp
        with_reducible rfl
      rotate_left
      · simp only [Act.put, List.setIfInBounds_toArray, List.set_cons_zero, List.set_cons_succ, i64_w, i32_w]
        rfl
      exact norm_ (by simp only [putAll, Act.put, List.setIfInBounds_toArray, List.set_cons_zero, List.set_cons_succ] <;> rfl) (hCont (wd.heap.size, A5, k5, A6, k6) _ ⟨hB2, htle, hZ, hO, hI⟩)
  rintro ⟨t, A5, k5, A6, k6⟩ w3 ⟨hB, htle, hZ, hO, hI⟩
  have hHeld : w3.cell? ⟨g, 6, none⟩ = some (.slice AO x1.f0.length cO) ∧ w3.cell? ⟨g, 7, none⟩ = some (.int .i64 x1.f1) ∧ w3.cell? ⟨g, 8, none⟩ = some (.int .i64 x1.f2) ∧ w3.cell? ⟨g, 9, none⟩ = some (.slice AI x1.f3.length cI) ∧ w3.cell? ⟨g, 10, none⟩ = some (.bool x1.f4) ∧ w3.cell? ⟨g, 11, none⟩ = some (.int .i64 x1.f5) ∧ w3.cell? ⟨g, 16, none⟩ = some (.int .i64 now) ∧ w3.cell? ⟨g, 13, none⟩ = some (.slice (some ad) l1.length cW) ∧ w3.cell? (ad.add (i * 3)) = some (.int .i64 b.f0) ∧ w3.cell? ⟨(ad.add (i * 3)).block, (ad.add (i * 3)).off + 1, none⟩ = some (.bool b.f1) ∧ w3.cell? ⟨(ad.add (i * 3)).block, (ad.add (i * 3)).off + 2, none⟩ = some (.slice A2 b.f2.length k2) := ⟨(CD.out.below hB).blk.c6, (CD.out.below hB).blk.c7, (CD.out.below hB).blk.c8, (CD.out.below hB).blk.c9, (CD.out.below hB).blk.c10, (CD.out.below hB).blk.c11, (CD.out.below hB).blk.c16, (CD.out.below hB).blk.c13, (AT.out.keep hB).c0, (AT.out.keep hB).c1, (AT.out.keep hB).c2⟩
  refine norm_ (a' := ?_) ?_ ?_
  rotate_left
  · simp only [putAll, Act.put, List.setIfInBounds_toArray, List.set_cons_zero, List.set_cons_succ]
    rfl
  refine last_ (i := 24) (N := none) #[true, true, true, true, true, true, true, true, true, true, true, true, true, true, true, true, true, true, true, true, true, true, true, true, true, false] rfl rfl (by kernel_rfl) (by decide) (fun K hK => ?_)
  have z0 := hZ.c0; have z1 := hZ.c1; have z2 := hZ.c2; have z3 := hZ.c3; have z4 := hZ.c4; have z5 := hZ.c5; have y := blk_frozen hZ
  refine skip_ (w1 := ?_) (by rfl) rfl ?_ ?_
  rotate_left
  · go_simp
    rfl
  obtain ⟨w4, hw9, Z9, F9⟩ := six hZ (.slice A5 x.f0.length k5) x.f1 x.f2 (.slice A6 x.f3.length k6) x.f4 x.f5
  rw [← hw9]
  clear hw9 z0 z1 z2 z3 z4 z5 y
  refine hK.out _ _ ?_
  clear hK K
  refine pure_ (i := 25) (N := some 8) (v := ?_) (a' := ?_) #[true, true, true, true, true, true, true, true, true, true, true, true, true, true, true, true, true, true, true, true, true, true, true, true, true, true] rfl rfl (by kernel_rfl) (fun _ _ _ h => h) (Or.inl ⟨by rfl, ?_⟩) ?_ ?_
  rotate_left
  · intro w'
    go_simp
    with_reducible rfl
  rotate_left
  · simp only [Act.put, List.setIfInBounds_toArray, List.set_cons_zero, List.set_cons_succ, i64_w, i32_w]
    rfl
  refine done_ (by kernel_rfl) ?_

  have hB4 : Below wd.heap.size wd w4 := Fr.below F9 hB (Nat.le_refl _) (fun k hk => by omega)
  have C4 := Lib.hid (CD.out.below hB4)
  have O4 := Lib.hid (Kd.V_mono (Kd.V_step hO (fun k hk hlt => F9.same k hlt hk.2)) (fun k hk => CD.out.fresh hk.1))
  have I4 := Lib.hid (Kd.V_mono (Kd.V_step hI (fun k hk hlt => F9.same k hlt hk.2)) (fun k hk => CD.out.fresh hk.1))
  have Z4 := Lib.hid Z9
  have B4 := Lib.hid (bb HWS.out hB4)
  clear hO hI F9 hB hB4 hZ Z9 htle hHeld HQ
  by_cases hr : r = 0
  · subst hr
    go_wp2_with fail
    replace C4 := Lib.hid (C4.out.below (below_drew (Below.refl _ _))); replace O4 := Lib.hid (Kd.V_drew O4.out); replace I4 := Lib.hid (Kd.V_drew I4.out); replace Z4 := Lib.hid (Z4.out.below (below_drew (Below.refl _ _)))
    refine start_ (n := 7) (S := fun w' => w'.cell? ⟨t, 0, none⟩ = some (.slice A5 x.f0.length k5) ∧ w'.cell? ⟨t, 1, none⟩ = some (.int .i64 x.f1) ∧ w'.cell? ⟨t, 2, none⟩ = some (.int .i64 x.f2) ∧ w'.cell? ⟨t, 3, none⟩ = some (.slice A6 x.f3.length k6) ∧ w'.cell? ⟨t, 4, none⟩ = some (.bool x.f4) ∧ w'.cell? ⟨t, 5, none⟩ = some (.int .i64 x.f5)) (ds := [6]) #[false, false, false, false, false, false, false] (by kernel_rfl) rfl rfl ⟨Z4.out.c0, Z4.out.c1, Z4.out.c2, Z4.out.c3, Z4.out.c4, Z4.out.c5⟩ (fun hHeld => ?_)
    generalize w4.drew = w5 at C4 O4 I4 Z4 hHeld ⊢
    refine pure_ (i := 0) (N := some 34) (v := ?_) (a' := ?_) #[true, false, false, false, false, false, false] rfl rfl (by kernel_rfl) (fun _ _ _ h => h) (Or.inl ⟨by rfl, ?_⟩) ?_ ?_
    rotate_left
    · intro w'
      go_simp
      with_reducible rfl
    rotate_left
    · simp only [Act.put, List.setIfInBounds_toArray, List.set_cons_zero, List.set_cons_succ, i64_w, i32_w]
      rfl
    refine pure_ (i := 1) (N := some 35) (v := ?_) (a' := ?_) #[true, true, false, false, false, false, false] rfl rfl (by kernel_rfl) (fun _ _ _ h => h) (Or.inl ⟨by rfl, ?_⟩) ?_ ?_
    rotate_left
    · intro w'
      go_simp
      with_reducible rfl
    rotate_left
    · simp only [Act.put, List.setIfInBounds_toArray, List.set_cons_zero, List.set_cons_succ, i64_w, i32_w]
      rfl
    refine pure_ (i := 3) (N := some 37) (v := ?_) (a' := ?_) #[true, true, false, true, false, false, false] rfl rfl (by kernel_rfl) (fun _ _ _ h => h) (Or.inl ⟨by rfl, ?_⟩) ?_ ?_
    rotate_left
    · intro w'
      go_simp
      with_reducible rfl
    rotate_left
    · simp only [Act.put, List.setIfInBounds_toArray, List.set_cons_zero, List.set_cons_succ, i64_w, i32_w]
      rfl
    refine pure_ (i := 4) (N := some 38) (v := ?_) (a' := ?_) #[true, true, false, true, true, false, false] rfl rfl (by kernel_rfl) (fun _ _ _ h => h) (Or.inl ⟨by rfl, ?_⟩) ?_ ?_
    rotate_left
    · intro w'
      go_simp
      with_reducible rfl
    rotate_left
    · simp only [Act.put, List.setIfInBounds_toArray, List.set_cons_zero, List.set_cons_succ, i64_w, i32_w]
      rfl
    refine take_ (i := 2) (N := some 36) (v := ?_) (a' := ?_) #[true, true, true, true, true, false, false] rfl rfl (by kernel_rfl) (fun _ _ _ h => h) (Or.inl ⟨by rfl, ?_⟩) hHeld ?_ ?_
    rotate_left
    · rintro w' ⟨s0, s1, s2, s3, s4, s5⟩
      go_simp
      with_reducible rfl
    rotate_left
    · simp only [Act.put, List.setIfInBounds_toArray, List.set_cons_zero, List.set_cons_succ, i64_w, i32_w]
      rfl
    refine pure_ (i := 5) (N := some 39) (v := ?_) (a' := ?_) #[true, true, true, true, true, true, false] rfl rfl (by kernel_rfl) (fun _ _ _ h => h) (Or.inl ⟨by rfl, ?_⟩) ?_ ?_
    rotate_left
    · intro w'
      go_simp
      with_reducible rfl
    rotate_left
    · simp only [Act.put, List.setIfInBounds_toArray, List.set_cons_zero, List.set_cons_succ, i64_w, i32_w]
      rfl
    refine last_ (i := 6) (N := none) #[true, true, true, true, true, true, true] rfl rfl (by kernel_rfl) (by decide) (fun K hK => ?_)
    have z0 := C4.out.blk.c6; have z1 := C4.out.blk.c7; have z2 := C4.out.blk.c8; have z3 := C4.out.blk.c9; have z4 := C4.out.blk.c10; have z5 := C4.out.blk.c11; have y := blk_frozen C4.out.blk
    refine skip_ (w1 := ?_) (by rfl) rfl ?_ ?_
    rotate_left
    · go_simp
      rfl
    obtain ⟨w6, hw9, hB9, F9⟩ := C4.out.blk.end1 (.slice A5 x.f0.length k5) (.slice A6 x.f3.length k6) x
    rw [← hw9]
    clear hw9 z0 z1 z2 z3 z4 z5 y
    refine hK.out _ _ ?_
    clear hK K
    refine done_ (by kernel_rfl) ?_

    have C6 := Lib.hid (C4.out.set1 F9 hB9 O4.out I4.out)
    clear C4 O4 I4 Z4 F9 hB9 hHeld
    go_wp2_with fail
    go_ret
    exact ⟨rfl, .slice A5 x.f0.length k5, .slice A6 x.f3.length k6, C6.out⟩
  · have hz : (r != 0) = true := by simpa using hr
    have HRN := Lib.hid hr
    clear hr
    go_wp2_with fail
    go_ret
    exact Or.inl ⟨HRN.out, rfl, B4.out⟩
end Go.Proofs.Ytbfhohpbldadbaa.P

