import Derived.Test.YtbfhohpbldadbaaDbS1
import Derived.Below
import Derived.Deep.Draws
import Derived.Deep.AppendLies
import Derived.Maps.AppendAt
import Derived.OwnWalk
import Derived.Laws.BytesArg
import Derived.Laws.MakeOwn
import Derived.Laws.OwnMore
import Derived.Deep.OwnRows
import Derived.Tactics
import Derived.Lib.ConvBytes
import Derived.Laws.Slices
import Derived.WalkKit
import Derived.KernelRfl
import Derived.RowKit3
import Derived.Deep.LoopGhost
import Derived.Deep.QuietTactic
import Derived.BigQuiet
import Derived.WideLaws
import Derived.Deep.DeepCutAuto
import Derived.Deep.CutBlock
import Derived.Deep.RegionHeld3
import Derived.Laws.Rows
import Derived.Lib.AppendStr
import Derived.ArgAppend
import Derived.Laws.IdiomCopy
import Derived.RowKit
import Derived.Laws.StructEq
import Derived.Test.YtbfhohpbldadbaaProg
import Derived.OrdersHeld
import Derived.Laws.BitsLemmas
import Derived.Lib.Hide
import Derived.WalkSpells
import Derived.Lib.OthersKept
import Derived.Lib.TrimU
import Derived.Laws.RangeAny
import Derived.Maps.Keyed
import Derived.WideKeyRuns
import Derived.Lib.SliceRun
import Derived.Deep.RegionWith
import Derived.Test.YtbfhohpbldadbaaDb2
namespace Go.Proofs.Ytbfhohpbldadbaa.P
open Go Go.RowKit Go.Proofs.YtbfhohpbldadbaaW.PrintWords Go.Proofs.YtbfhohpbldadbaaW.PrintLast Go.Proofs.YtbfhohpbldadbaaW.PrintMore
set_option linter.unusedVariables false
set_option linter.unusedSimpArgs false
theorem ne_after {W : World} {u v1 : Value} {k : Nat} (hat : v1.ownBlock = u.ownBlock ∨ ∃ b, v1.ownBlock = some b ∧ W.heap.size ≤ b) (hlt : k < W.heap.size) (hne : some k ≠ u.ownBlock) : some k ≠ v1.ownBlock := by
  rcases hat with h | ⟨b, h, hb⟩
  · rw [h]; exact hne
  · rw [h]; intro e; injection e with e; omega
theorem V_next {α : Type} {d : Kd α} {e : Nat} {W W' : World} {ok ok' : Nat → Prop} {u v : Value} {xs : List α} (h : Kd.V d e W 0 ok v xs) (hg : W.grownBy W' u.ownBlock) (hok : ∀ k, ok k → some k ≠ u.ownBlock) (hok' : ∀ k, ok k → k < W.heap.size → ok' k) : Kd.V d e W' 0 ok' v xs :=
  Kd.V_mono (Kd.V_grown (Kd.V_bound h) hg (fun k hk => hok k hk.1)) (fun k hk => hok' k hk.1 hk.2)
theorem R_next {α : Type} {d : Kd α} {e B : Nat} {W W' : World} {ok ok' : Nat → Prop} {u v : Value} {xs : List α} (h : Kd.R d e W B ok v xs) (hg : W.grownBy W' u.ownBlock) (hok : ∀ k, ok k → some k ≠ u.ownBlock) (hok' : ∀ k, ok k → k < W.heap.size → ok' k) : Kd.R d e W' B ok' v xs :=
  Kd.R_mono (Kd.R_grown (Kd.R_bound h) hg (fun k hk => hok k hk.1)) (fun k hk => hok' k hk.1 hk.2.2.1)
section
variable {w W W' : World} {g : Nat} {vo0 vi0 : Value} {x0 : S61} {vo1 vi1 : Value} {x1 : S61} {w0 w1 : Value} {l0 l1 : List S83} {p0 p1 : Value} {r0 r1 : List S39} {now : Int}
/-- The row of the messages to 1 has grown, and its cell is written. -/
theorem Chan.way1 (h : Chan w W g vo0 vi0 x0 vo1 vi1 x1 w0 w1 l0 l1 p0 p1 r0 r1 now) {v1 : Value} {l : List S83} (hb : Below w.heap.size w W') (hg : W.grownBy W' w1.ownBlock) (hat : v1.ownBlock = w1.ownBlock ∨ ∃ b, v1.ownBlock = some b ∧ W.heap.size ≤ b)
    (hR : Kd.R k83 83 W' w.heap.size (fun k => k ≠ g ∧ some k ≠ w0.ownBlock ∧ some k ≠ p0.ownBlock ∧ some k ≠ p1.ownBlock) v1 l) : Chan w (W'.setCell ⟨g, 13, none⟩ v1) g vo0 vi0 x0 vo1 vi1 x1 w0 v1 l0 l p0 p1 r0 r1 now := by
  have hne : some g ≠ w1.ownBlock := fun e => (h.ww1.1 g e.symm).1 rfl
  have hblk : ChB W' g vo0 vi0 x0 vo1 vi1 x1 w0 w1 p0 p1 now := blk_grown h.blk hg hne
  have nr : ∀ k, NR g w0 w1 p0 p1 k → k < W.heap.size → NR g w0 v1 p0 p1 k := fun k hk hlt => ⟨hk.1, hk.2.1, ne_after hat hlt hk.2.2.1, hk.2.2.2.1, hk.2.2.2.2⟩
  refine ⟨below_set (g := g) (w := w) (W := W') hb (Nat.le_refl _) h.ge 13 v1, h.ge, blk_put hblk 13 v1 rfl, ?_, ?_, ?_, ?_, ?_, ?_, ?_, ?_⟩
  · exact Kd.V_far (p := ⟨g, 13, none⟩) (V_next h.o0 hg (fun k hk => hk.2.2.1) nr) (fun k hk => hk.1) v1
  · exact Kd.V_far (p := ⟨g, 13, none⟩) (V_next h.i0 hg (fun k hk => hk.2.2.1) nr) (fun k hk => hk.1) v1
  · exact Kd.V_far (p := ⟨g, 13, none⟩) (V_next h.o1 hg (fun k hk => hk.2.2.1) nr) (fun k hk => hk.1) v1
  · exact Kd.V_far (p := ⟨g, 13, none⟩) (V_next h.i1 hg (fun k hk => hk.2.2.1) nr) (fun k hk => hk.1) v1
  · exact Kd.R_far (p := ⟨g, 13, none⟩) (R_next h.ww0 hg (fun k hk => hk.2.1) (fun k hk hlt => ⟨hk.1, ne_after hat hlt hk.2.1, hk.2.2⟩)) (fun k hk => hk.1) v1
  · exact Kd.R_far (p := ⟨g, 13, none⟩) hR (fun k hk => hk.1) v1
  · exact Kd.R_far (p := ⟨g, 13, none⟩) (R_next h.pp0 hg (fun k hk => hk.2.2.1) (fun k hk hlt => ⟨hk.1, hk.2.1, ne_after hat hlt hk.2.2.1, hk.2.2.2⟩)) (fun k hk => hk.1) v1
  · exact Kd.R_far (p := ⟨g, 13, none⟩) (R_next h.pp1 hg (fun k hk => hk.2.2.1) (fun k hk hlt => ⟨hk.1, hk.2.1, ne_after hat hlt hk.2.2.1, hk.2.2.2⟩)) (fun k hk => hk.1) v1
/-- The same, of the messages to 0. -/
theorem Chan.way0 (h : Chan w W g vo0 vi0 x0 vo1 vi1 x1 w0 w1 l0 l1 p0 p1 r0 r1 now) {v1 : Value} {l : List S83} (hb : Below w.heap.size w W') (hg : W.grownBy W' w0.ownBlock) (hat : v1.ownBlock = w0.ownBlock ∨ ∃ b, v1.ownBlock = some b ∧ W.heap.size ≤ b)
    (hR : Kd.R k83 83 W' w.heap.size (fun k => k ≠ g ∧ some k ≠ w1.ownBlock ∧ some k ≠ p0.ownBlock ∧ some k ≠ p1.ownBlock) v1 l) : Chan w (W'.setCell ⟨g, 12, none⟩ v1) g vo0 vi0 x0 vo1 vi1 x1 v1 w1 l l1 p0 p1 r0 r1 now := by
  have hne : some g ≠ w0.ownBlock := fun e => (h.ww0.1 g e.symm).1 rfl
  have hblk : ChB W' g vo0 vi0 x0 vo1 vi1 x1 w0 w1 p0 p1 now := blk_grown h.blk hg hne
  have nr : ∀ k, NR g w0 w1 p0 p1 k → k < W.heap.size → NR g v1 w1 p0 p1 k := fun k hk hlt => ⟨hk.1, ne_after hat hlt hk.2.1, hk.2.2⟩
  refine ⟨below_set (g := g) (w := w) (W := W') hb (Nat.le_refl _) h.ge 12 v1, h.ge, blk_put hblk 12 v1 rfl, ?_, ?_, ?_, ?_, ?_, ?_, ?_, ?_⟩
  · exact Kd.V_far (p := ⟨g, 12, none⟩) (V_next h.o0 hg (fun k hk => hk.2.1) nr) (fun k hk => hk.1) v1
  · exact Kd.V_far (p := ⟨g, 12, none⟩) (V_next h.i0 hg (fun k hk => hk.2.1) nr) (fun k hk => hk.1) v1
  · exact Kd.V_far (p := ⟨g, 12, none⟩) (V_next h.o1 hg (fun k hk => hk.2.1) nr) (fun k hk => hk.1) v1
  · exact Kd.V_far (p := ⟨g, 12, none⟩) (V_next h.i1 hg (fun k hk => hk.2.1) nr) (fun k hk => hk.1) v1
  · exact Kd.R_far (p := ⟨g, 12, none⟩) hR (fun k hk => hk.1) v1
  · exact Kd.R_far (p := ⟨g, 12, none⟩) (R_next h.ww1 hg (fun k hk => hk.2.1) (fun k hk hlt => ⟨hk.1, ne_after hat hlt hk.2.1, hk.2.2⟩)) (fun k hk => hk.1) v1
  · exact Kd.R_far (p := ⟨g, 12, none⟩) (R_next h.pp0 hg (fun k hk => hk.2.1) (fun k hk hlt => ⟨hk.1, ne_after hat hlt hk.2.1, hk.2.2⟩)) (fun k hk => hk.1) v1
  · exact Kd.R_far (p := ⟨g, 12, none⟩) (R_next h.pp1 hg (fun k hk => hk.2.1) (fun k hk hlt => ⟨hk.1, ne_after hat hlt hk.2.1, hk.2.2⟩)) (fun k hk => hk.1) v1
end
theorem poll_lit {c : S61} {now : Int} {x : S61} {l : List S83} {r : Int} (h : pollF c now = (x, l, r)) (A0 : Option Addr) (c0 : Nat) (A3 : Option Addr) (c3 : Nat) (w : World) (hr : Kd.C kL w A0 c.f0.length c.f0) (hr3 : Kd.C k39 w A3 c.f3.length c.f3) (hl : c.f3.length ≤ 1000000) :
    Calls Try.prog 44 #[.agg #[.slice A0 c.f0.length c0, .int .i64 c.f1, .int .i64 c.f2, .slice A3 c.f3.length c3, .bool c.f4, .int .i64 c.f5], .int .i64 now] w (Poll3 x l r w) := by
  have hc := poll_calls A0 c0 A3 c3 c now w hr hr3 hl
  rw [h] at hc
  exact hc
theorem wr1 : wrap64 1 = 1 := wid (by decide) (by decide)
theorem wr0 : wrap64 0 = 0 := wid (by decide) (by decide)
theorem six_read {W : World} {B : Nat} {v : Value} {x : S61} (h : EndV W B v x) : ∃ A0 c0 A3 c3, v = .agg #[.slice A0 x.f0.length c0, .int .i64 x.f1, .int .i64 x.f2, .slice A3 x.f3.length c3, .bool x.f4, .int .i64 x.f5] ∧ Kd.V kL 28 W 0 (fun k => B ≤ k) (.slice A0 x.f0.length c0) x.f0 ∧ Kd.V k39 39 W 0 (fun k => B ≤ k) (.slice A3 x.f3.length c3) x.f3 := by
  obtain ⟨vo, vi, rfl, hO, hI⟩ := h
  obtain ⟨A0, c0, rfl⟩ := Kd.V_slice hO
  obtain ⟨A3, c3, rfl⟩ := Kd.V_slice hI
  exact ⟨A0, c0, A3, c3, rfl, hO, hI⟩
set_option maxHeartbeats 16000000 in
set_option maxRecDepth 100000 in
theorem pollCh0 (w W : World) (g : Nat) (vo0 vi0 : Value) (x0 : S61) (vo1 vi1 : Value) (x1 : S61) (w0 w1 : Value) (l0 l1 : List S83) (p0 p1 : Value) (r0 r1 : List S39) (now : Int) (h : Chan w W g vo0 vi0 x0 vo1 vi1 x1 w0 w1 l0 l1 p0 p1 r0 r1 now) (hl : x0.f3.length ≤ 1000000) (hw : l1.length ≤ 1000000) (x : S61) (l : List S83) (r : Int) (heq : pollF x0 now = (x, l, r)) (hll : l.length ≤ 2) :
    Calls Try.prog 36 #[.pointer (some ⟨g, 0, none⟩), .int .i64 0] W fun e W' => (r ≠ 0 ∧ e = .returned (.bool false) ∧ Below W.heap.size W W') ∨ (r = 0 ∧ e = .returned (.bool true) ∧ ∃ vo vi wv, Chan w W' g vo vi x vo1 vi1 x1 w0 wv l0 (l1 ++ l) p0 p1 r0 r1 now) := by
  obtain ⟨AO, cO, hvo⟩ := Kd.V_slice h.o0
  obtain ⟨AI, cI, hvi⟩ := Kd.V_slice h.i0
  subst hvo hvi
  have C := Lib.hid h; have HL := Lib.hid hl; have HW := Lib.hid hw; have HQ := Lib.hid heq; have HLL := Lib.hid hll
  clear h hl hw heq hll
  go_enter Try.func36, Try.ntmps36
  go_wp2_with fail
  have HWS := Lib.hid (show Below W.heap.size W W.drew from below_drew (Below.refl _ _))
  have CD := Lib.hid (C.out.below (below_drew (Below.refl _ _)))
  refine start_ (n := 19) (S := fun w' => w'.cell? ⟨g, 0, none⟩ = some (.slice AO x0.f0.length cO) ∧ w'.cell? ⟨g, 1, none⟩ = some (.int .i64 x0.f1) ∧ w'.cell? ⟨g, 2, none⟩ = some (.int .i64 x0.f2) ∧ w'.cell? ⟨g, 3, none⟩ = some (.slice AI x0.f3.length cI) ∧ w'.cell? ⟨g, 4, none⟩ = some (.bool x0.f4) ∧ w'.cell? ⟨g, 5, none⟩ = some (.int .i64 x0.f5) ∧ w'.cell? ⟨g, 16, none⟩ = some (.int .i64 now)) (ds := [16]) #[false, false, false, false, false, false, false, false, false, false, false, false, false, false, false, false, false, false, false] (by kernel_rfl) rfl rfl ⟨CD.out.blk.c0, CD.out.blk.c1, CD.out.blk.c2, CD.out.blk.c3, CD.out.blk.c4, CD.out.blk.c5, CD.out.blk.c16⟩ (fun hHeld => ?_)
  generalize W.drew = wd at CD HWS hHeld ⊢
  refine pure_ (i := 0) (N := some 9) (v := ?_) (a' := ?_) #[true, false, false, false, false, false, false, false, false, false, false, false, false, false, false, false, false, false, false] rfl rfl (by kernel_rfl) (fun _ _ _ h => h) (Or.inl ⟨by rfl, ?_⟩) ?_ ?_
  rotate_left
  · intro w'
    go_simp
    with_reducible rfl
  rotate_left
  · simp only [Act.put, List.setIfInBounds_toArray, List.set_cons_zero, List.set_cons_succ, i64_w, i32_w]
    rfl
  refine pure_ (i := 1) (N := some 10) (v := ?_) (a' := ?_) #[true, true, false, false, false, false, false, false, false, false, false, false, false, false, false, false, false, false, false] rfl rfl (by kernel_rfl) (fun _ _ _ h => h) (Or.inl ⟨by rfl, ?_⟩) ?_ ?_
  rotate_left
  · intro w'
    go_simp
    with_reducible rfl
  rotate_left
  · simp only [Act.put, List.setIfInBounds_toArray, List.set_cons_zero, List.set_cons_succ, i64_w, i32_w]
    rfl
  refine pure_ (i := 2) (N := some 11) (v := ?_) (a' := ?_) #[true, true, true, false, false, false, false, false, false, false, false, false, false, false, false, false, false, false, false] rfl rfl (by kernel_rfl) (fun _ _ _ h => h) (Or.inl ⟨by rfl, ?_⟩) ?_ ?_
  rotate_left
  · intro w'
    go_simp
    with_reducible rfl
  rotate_left
  · simp only [Act.put, List.setIfInBounds_toArray, List.set_cons_zero, List.set_cons_succ, i64_w, i32_w]
    rfl
  refine pure_ (i := 3) (N := some 12) (v := ?_) (a' := ?_) #[true, true, true, true, false, false, false, false, false, false, false, false, false, false, false, false, false, false, false] rfl rfl (by kernel_rfl) (fun _ _ _ h => h) (Or.inl ⟨by rfl, ?_⟩) ?_ ?_
  rotate_left
  · intro w'
    go_simp
    with_reducible rfl
  rotate_left
  · simp only [Act.put, List.setIfInBounds_toArray, List.set_cons_zero, List.set_cons_succ, i64_w, i32_w]
    rfl
  refine pure_ (i := 4) (N := some 13) (v := ?_) (a' := ?_) #[true, true, true, true, true, false, false, false, false, false, false, false, false, false, false, false, false, false, false] rfl rfl (by kernel_rfl) (fun _ _ _ h => h) (Or.inl ⟨by rfl, ?_⟩) ?_ ?_
  rotate_left
  · intro w'
    go_simp
    with_reducible rfl
  rotate_left
  · simp only [Act.put, List.setIfInBounds_toArray, List.set_cons_zero, List.set_cons_succ, i64_w, i32_w]
    rfl
  refine pure_ (i := 6) (N := some 15) (v := ?_) (a' := ?_) #[true, true, true, true, true, false, true, false, false, false, false, false, false, false, false, false, false, false, false] rfl rfl (by kernel_rfl) (fun _ _ _ h => h) (Or.inl ⟨by rfl, ?_⟩) ?_ ?_
  rotate_left
  · intro w'
    go_simp
    with_reducible rfl
  rotate_left
  · simp only [Act.put, List.setIfInBounds_toArray, List.set_cons_zero, List.set_cons_succ, i64_w, i32_w]
    rfl
  refine pure_ (i := 7) (N := some 16) (v := ?_) (a' := ?_) #[true, true, true, true, true, false, true, true, false, false, false, false, false, false, false, false, false, false, false] rfl rfl (by kernel_rfl) (fun _ _ _ h => h) (Or.inl ⟨by rfl, ?_⟩) ?_ ?_
  rotate_left
  · intro w'
    go_simp
    with_reducible rfl
  rotate_left
  · simp only [Act.put, List.setIfInBounds_toArray, List.set_cons_zero, List.set_cons_succ, i64_w, i32_w]
    rfl
  refine pure_ (i := 8) (N := some 17) (v := ?_) (a' := ?_) #[true, true, true, true, true, false, true, true, true, false, false, false, false, false, false, false, false, false, false] rfl rfl (by kernel_rfl) (fun _ _ _ h => h) (Or.inl ⟨by rfl, ?_⟩) ?_ ?_
  rotate_left
  · intro w'
    go_simp
    with_reducible rfl
  rotate_left
  · simp only [Act.put, List.setIfInBounds_toArray, List.set_cons_zero, List.set_cons_succ, i64_w, i32_w]
    rfl
  refine take_ (i := 5) (N := some 14) (v := ?_) (a' := ?_) #[true, true, true, true, true, true, true, true, true, false, false, false, false, false, false, false, false, false, false] rfl rfl (by kernel_rfl) (fun _ _ _ h => h) (Or.inl ⟨by rfl, ?_⟩) hHeld ?_ ?_
  rotate_left
  · rintro w' ⟨s0, s1, s2, s3, s4, s5, s6⟩
    go_simp
    with_reducible rfl
  rotate_left
  · simp only [Act.put, List.setIfInBounds_toArray, List.set_cons_zero, List.set_cons_succ, i64_w, i32_w]
    rfl
  refine take_ (i := 9) (N := some 18) (v := ?_) (a' := ?_) #[true, true, true, true, true, true, true, true, true, true, false, false, false, false, false, false, false, false, false] rfl rfl (by kernel_rfl) (fun _ _ _ h => h) (Or.inl ⟨by rfl, ?_⟩) hHeld ?_ ?_
  rotate_left
  · rintro w' ⟨s0, s1, s2, s3, s4, s5, s6⟩
    go_simp
    with_reducible rfl
  rotate_left
  · simp only [Act.put, List.setIfInBounds_toArray, List.set_cons_zero, List.set_cons_succ, i64_w, i32_w]
    rfl
  refine join_ (σ := Nat × Option Addr × Nat × Option Addr × Nat × Value) 3 #[true, true, true, true, true, true, true, true, true, true, true, true, true, true, true, true, false, false, false] (fun s => [(19, .tuple #[.agg #[.slice s.2.1 x.f0.length s.2.2.1, .int .i64 x.f1, .int .i64 x.f2, .slice s.2.2.2.1 x.f3.length s.2.2.2.2.1, .bool x.f4, .int .i64 x.f5], s.2.2.2.2.2, .int .i64 r]), (5, .pointer (some ⟨s.1, 0, none⟩)), (8, .tuple #[.agg #[.slice s.2.1 x.f0.length s.2.2.1, .int .i64 x.f1, .int .i64 x.f2, .slice s.2.2.2.1 x.f3.length s.2.2.2.2.1, .bool x.f4, .int .i64 x.f5], s.2.2.2.2.2, .int .i64 r]), (20, .agg #[.slice s.2.1 x.f0.length s.2.2.1, .int .i64 x.f1, .int .i64 x.f2, .slice s.2.2.2.1 x.f3.length s.2.2.2.2.1, .bool x.f4, .int .i64 x.f5]), (21, s.2.2.2.2.2), (22, .int .i64 r)]) (fun s w' => Below wd.heap.size wd w' ∧ wd.heap.size ≤ s.1 ∧ EBlk w' s.1 61 (.slice none 0 0) 0 0 (.slice none 0 0) false 0 ∧ Kd.V kL 28 w' 0 (fun k => wd.heap.size ≤ k ∧ k ≠ s.1) (.slice s.2.1 x.f0.length s.2.2.1) x.f0 ∧ Kd.V k39 39 w' 0 (fun k => wd.heap.size ≤ k ∧ k ≠ s.1) (.slice s.2.2.2.1 x.f3.length s.2.2.2.2.1) x.f3 ∧ Kd.R k83 83 w' wd.heap.size (fun k => wd.heap.size ≤ k ∧ k ≠ s.1) s.2.2.2.2.2 l) ?_ ?_
  rotate_left
  · intro hCont
    refine two_ (i := 10) (j := 15) (Ni := some 19) (Nj := some 5) #[true, true, true, true, true, true, true, true, true, true, true, false, false, false, false, false, false, false, false] #[true, true, true, true, true, true, true, true, true, true, false, false, false, false, false, true, false, false, false] rfl rfl rfl rfl (by kernel_rfl) (by decide) (by decide) (fun K hK => ?_) (fun K hK => ?_)
    · skip
      refine goes_ Try.func44 (by kernel_rfl) rfl #[.agg #[.slice AO x0.f0.length cO, .int .i64 x0.f1, .int .i64 x0.f2, .slice AI x0.f3.length cI, .bool x0.f4, .int .i64 x0.f5], .int .i64 now] (by rfl) rfl rfl (by simp only [List.map_toArray, List.map_cons, List.map_nil]; rfl) ?_
      with_reducible refine (poll_lit HQ.out AO cO AI cI wd (Kd.V_reads' (CD.out.below (Below.refl _ _)).o0).2.2 (Kd.V_reads' (CD.out.below (Below.refl _ _)).i0).2.2 HL.out).mono ?_
      rintro e wx1 ⟨v, vl, rfl, hE, hV, hb⟩
      refine ⟨_, rfl, ?_⟩
      obtain ⟨A5, k5, A6, k6, rfl, hO, hI⟩ := six_read hE
      clear hE
      replace hV := Kd.R_mono (Kd.R_bound hV) (ok' := fun k => wd.heap.size ≤ k) (fun k hk => hk.2.1)
      have hB1 : Below wd.heap.size wd wx1 := hb
      clear hb
      refine hK.out _ _ ⟨(CD.out.below hB1).blk.c0, (CD.out.below hB1).blk.c1, (CD.out.below hB1).blk.c2, (CD.out.below hB1).blk.c3, (CD.out.below hB1).blk.c4, (CD.out.below hB1).blk.c5, (CD.out.below hB1).blk.c16⟩ (fun hHeld => ?_)
      clear hK K
      refine norm_ (a' := ?_) ?_ ?_
      rotate_left
      · show Act.put _ (some 19) _ = _
        simp only [Act.put, List.setIfInBounds_toArray, List.set_cons_zero, List.set_cons_succ, i64_w, i32_w]
        rfl
      refine pure_ (i := 11) (N := some 8) (v := ?_) (a' := ?_) #[true, true, true, true, true, true, true, true, true, true, true, true, false, false, false, false, false, false, false] rfl rfl (by kernel_rfl) (fun _ _ _ h => h) (Or.inl ⟨by rfl, ?_⟩) ?_ ?_
      rotate_left
      · intro w'
        go_simp
        with_reducible rfl
      rotate_left
      · simp only [Act.put, List.setIfInBounds_toArray, List.set_cons_zero, List.set_cons_succ, i64_w, i32_w]
        rfl
      refine pure_ (i := 12) (N := some 20) (v := ?_) (a' := ?_) #[true, true, true, true, true, true, true, true, true, true, true, true, true, false, false, false, false, false, false] rfl rfl (by kernel_rfl) (fun _ _ _ h => h) (Or.inl ⟨by rfl, ?_⟩) ?_ ?_
      rotate_left
      · intro w'
        go_simp
        with_reducible rfl
      rotate_left
      · simp only [Act.put, List.setIfInBounds_toArray, List.set_cons_zero, List.set_cons_succ, i64_w, i32_w]
        rfl
      refine pure_ (i := 13) (N := some 21) (v := ?_) (a' := ?_) #[true, true, true, true, true, true, true, true, true, true, true, true, true, true, false, false, false, false, false] rfl rfl (by kernel_rfl) (fun _ _ _ h => h) (Or.inl ⟨by rfl, ?_⟩) ?_ ?_
      rotate_left
      · intro w'
        go_simp
        with_reducible rfl
      rotate_left
      · simp only [Act.put, List.setIfInBounds_toArray, List.set_cons_zero, List.set_cons_succ, i64_w, i32_w]
        rfl
      refine pure_ (i := 14) (N := some 22) (v := ?_) (a' := ?_) #[true, true, true, true, true, true, true, true, true, true, true, true, true, true, true, false, false, false, false] rfl rfl (by kernel_rfl) (fun _ _ _ h => h) (Or.inl ⟨by rfl, ?_⟩) ?_ ?_
      rotate_left
      · intro w'
        go_simp
        with_reducible rfl
      rotate_left
      · simp only [Act.put, List.setIfInBounds_toArray, List.set_cons_zero, List.set_cons_succ, i64_w, i32_w]
        rfl
      refine one_ (i := 15) (N := some 5) #[true, true, true, true, true, true, true, true, true, true, true, true, true, true, true, true, false, false, false] rfl rfl (by kernel_rfl) (by decide) (fun K hK => ?_)
      refine value_ (w1 := ?_) (v := ?_) (by rfl) rfl ?_ ?_
      rotate_left 2
      · go_simp
        constructor
        all_goals rfl
      have hB2 : Below wd.heap.size wd (wx1.alloc (.cells #[.slice none 0 0, .int .i64 0, .int .i64 0, .slice none 0 0, .bool false, .int .i64 0] 61)) := al hB1 _
      have hZ := EBlk.new wx1 61 (.slice none 0 0) (.slice none 0 0) 0 0 0 false
      have htle : wd.heap.size ≤ wx1.heap.size := hB1.size
      replace hO := Kd.V_mono (Kd.V_alloc (Kd.V_bound hO) (.cells #[.slice none 0 0, .int .i64 0, .int .i64 0, .slice none 0 0, .bool false, .int .i64 0] 61)) (fun k hk => show wd.heap.size ≤ k ∧ k ≠ wx1.heap.size from ⟨hk.1, by have := hk.2; omega⟩)
      replace hI := Kd.V_mono (Kd.V_alloc (Kd.V_bound hI) (.cells #[.slice none 0 0, .int .i64 0, .int .i64 0, .slice none 0 0, .bool false, .int .i64 0] 61)) (fun k hk => show wd.heap.size ≤ k ∧ k ≠ wx1.heap.size from ⟨hk.1, by have := hk.2; omega⟩)
      replace hV := Kd.R_mono (Kd.R_alloc (Kd.R_bound hV) (.cells #[.slice none 0 0, .int .i64 0, .int .i64 0, .slice none 0 0, .bool false, .int .i64 0] 61)) (fun k hk => show wd.heap.size ≤ k ∧ k ≠ wx1.heap.size from ⟨hk.1, by have := hk.2.2.1; omega⟩)
      generalize wx1.alloc (.cells #[.slice none 0 0, .int .i64 0, .int .i64 0, .slice none 0 0, .bool false, .int .i64 0] 61) = wx2 at hB2 hZ hO hI hV ⊢
      refine hK.out _ _ ⟨(CD.out.below hB2).blk.c0, (CD.out.below hB2).blk.c1, (CD.out.below hB2).blk.c2, (CD.out.below hB2).blk.c3, (CD.out.below hB2).blk.c4, (CD.out.below hB2).blk.c5, (CD.out.below hB2).blk.c16⟩ (fun hHeld => ?_)
      clear hK K
      refine norm_ (a' := ?_) ?_ ?_
      rotate_left
      · show Act.put _ (some 5) _ = _
        simp only [Act.put, List.setIfInBounds_toArray, List.set_cons_zero, List.set_cons_succ, i64_w, i32_w]
        rfl
      exact norm_ (by simp only [putAll, Act.put, List.setIfInBounds_toArray, List.set_cons_zero, List.set_cons_succ] <;> rfl) (hCont (wx1.heap.size, A5, k5, A6, k6, vl) _ ⟨hB2, htle, hZ, hO, hI, hV⟩)
    · skip
      refine value_ (w1 := ?_) (v := ?_) (by rfl) rfl ?_ ?_
      rotate_left 2
      · go_simp
        constructor
        all_goals rfl
      have hB1 : Below wd.heap.size wd (wd.alloc (.cells #[.slice none 0 0, .int .i64 0, .int .i64 0, .slice none 0 0, .bool false, .int .i64 0] 61)) := below_one _ _
      have hZ := EBlk.new wd 61 (.slice none 0 0) (.slice none 0 0) 0 0 0 false
      have htle : wd.heap.size ≤ wd.heap.size := Nat.le_refl _
      generalize wd.alloc (.cells #[.slice none 0 0, .int .i64 0, .int .i64 0, .slice none 0 0, .bool false, .int .i64 0] 61) = wx1 at hB1 hZ ⊢
      refine hK.out _ _ ⟨(CD.out.below hB1).blk.c0, (CD.out.below hB1).blk.c1, (CD.out.below hB1).blk.c2, (CD.out.below hB1).blk.c3, (CD.out.below hB1).blk.c4, (CD.out.below hB1).blk.c5, (CD.out.below hB1).blk.c16⟩ (fun hHeld => ?_)
      clear hK K
      refine norm_ (a' := ?_) ?_ ?_
      rotate_left
      · show Act.put _ (some 5) _ = _
        simp only [Act.put, List.setIfInBounds_toArray, List.set_cons_zero, List.set_cons_succ, i64_w, i32_w]
        rfl
      refine one_ (i := 10) (N := some 19) #[true, true, true, true, true, true, true, true, true, true, true, false, false, false, false, true, false, false, false] rfl rfl (by kernel_rfl) (by decide) (fun K hK => ?_)
      refine goes_ Try.func44 (by kernel_rfl) rfl #[.agg #[.slice AO x0.f0.length cO, .int .i64 x0.f1, .int .i64 x0.f2, .slice AI x0.f3.length cI, .bool x0.f4, .int .i64 x0.f5], .int .i64 now] (by rfl) rfl rfl (by simp only [List.map_toArray, List.map_cons, List.map_nil]; rfl) ?_
      with_reducible refine (poll_lit HQ.out AO cO AI cI wx1 (Kd.V_reads' (CD.out.below hB1).o0).2.2 (Kd.V_reads' (CD.out.below hB1).i0).2.2 HL.out).mono ?_
      rintro e wx2 ⟨v, vl, rfl, hE, hV, hb⟩
      refine ⟨_, rfl, ?_⟩
      obtain ⟨A5, k5, A6, k6, rfl, hO, hI⟩ := six_read hE
      clear hE
      replace hO := Kd.V_mono hO (ok' := fun k => wd.heap.size ≤ k ∧ k ≠ wd.heap.size) (fun k hk => show wd.heap.size ≤ k ∧ k ≠ wd.heap.size from ⟨by have := hB1.size; omega, by have := heap_lt hZ; omega⟩)
      replace hI := Kd.V_mono hI (ok' := fun k => wd.heap.size ≤ k ∧ k ≠ wd.heap.size) (fun k hk => show wd.heap.size ≤ k ∧ k ≠ wd.heap.size from ⟨by have := hB1.size; omega, by have := heap_lt hZ; omega⟩)
      replace hV := Kd.R_lower (Kd.R_mono (Kd.R_bound hV) (ok' := fun k => wd.heap.size ≤ k ∧ k ≠ wd.heap.size) (fun k hk => show wd.heap.size ≤ k ∧ k ≠ wd.heap.size from ⟨by have := hB1.size; have := hk.2.1; omega, by have := heap_lt hZ; have := hk.2.1; omega⟩)) hB1.size
      replace hZ := hZ.below hb
      have hB2 : Below wd.heap.size wd wx2 := bb hB1 hb
      clear hb
      refine hK.out _ _ ⟨(CD.out.below hB2).blk.c0, (CD.out.below hB2).blk.c1, (CD.out.below hB2).blk.c2, (CD.out.below hB2).blk.c3, (CD.out.below hB2).blk.c4, (CD.out.below hB2).blk.c5, (CD.out.below hB2).blk.c16⟩ (fun hHeld => ?_)
      clear hK K
      refine norm_ (a' := ?_) ?_ ?_
      rotate_left
      · show Act.put _ (some 19) _ = _
        simp only [Act.put, List.setIfInBounds_toArray, List.set_cons_zero, List.set_cons_succ, i64_w, i32_w]
        rfl
      refine pure_ (i := 11) (N := some 8) (v := ?_) (a' := ?_) #[true, true, true, true, true, true, true, true, true, true, true, true, false, false, false, true, false, false, false] rfl rfl (by kernel_rfl) (fun _ _ _ h => h) (Or.inl ⟨by rfl, ?_⟩) ?_ ?_
      rotate_left
      · intro w'
        go_simp
        with_reducible rfl
      rotate_left
      · simp only [Act.put, List.setIfInBounds_toArray, List.set_cons_zero, List.set_cons_succ, i64_w, i32_w]
        rfl
      refine pure_ (i := 12) (N := some 20) (v := ?_) (a' := ?_) #[true, true, true, true, true, true, true, true, true, true, true, true, true, false, false, true, false, false, false] rfl rfl (by kernel_rfl) (fun _ _ _ h => h) (Or.inl ⟨by rfl, ?_⟩) ?_ ?_
      rotate_left
      · intro w'
        go_simp
        with_reducible rfl
      rotate_left
      · simp only [Act.put, List.setIfInBounds_toArray, List.set_cons_zero, List.set_cons_succ, i64_w, i32_w]
        rfl
      refine pure_ (i := 13) (N := some 21) (v := ?_) (a' := ?_) #[true, true, true, true, true, true, true, true, true, true, true, true, true, true, false, true, false, false, false] rfl rfl (by kernel_rfl) (fun _ _ _ h => h) (Or.inl ⟨by rfl, ?_⟩) ?_ ?_
      rotate_left
      · intro w'
        go_simp
        with_reducible rfl
      rotate_left
      · simp only [Act.put, List.setIfInBounds_toArray, List.set_cons_zero, List.set_cons_succ, i64_w, i32_w]
        rfl
      refine pure_ (i := 14) (N := some 22) (v := ?_) (a' := ?_) #[true, true, true, true, true, true, true, true, true, true, true, true, true, true, true, true, false, false, false] rfl rfl (by kernel_rfl) (fun _ _ _ h => h) (Or.inl ⟨by rfl, ?_⟩) ?_ ?_
      rotate_left
      · intro w'
        go_simp
        with_reducible rfl
      rotate_left
      · simp only [Act.put, List.setIfInBounds_toArray, List.set_cons_zero, List.set_cons_succ, i64_w, i32_w]
        rfl
      exact norm_ (by simp only [putAll, Act.put, List.setIfInBounds_toArray, List.set_cons_zero, List.set_cons_succ] <;> rfl) (hCont (wd.heap.size, A5, k5, A6, k6, vl) _ ⟨hB2, htle, hZ, hO, hI, hV⟩)
  rintro ⟨t, A5, k5, A6, k6, vl⟩ w3 ⟨hB, htle, hZ, hO, hI, hV⟩
  have hHeld : w3.cell? ⟨g, 0, none⟩ = some (.slice AO x0.f0.length cO) ∧ w3.cell? ⟨g, 1, none⟩ = some (.int .i64 x0.f1) ∧ w3.cell? ⟨g, 2, none⟩ = some (.int .i64 x0.f2) ∧ w3.cell? ⟨g, 3, none⟩ = some (.slice AI x0.f3.length cI) ∧ w3.cell? ⟨g, 4, none⟩ = some (.bool x0.f4) ∧ w3.cell? ⟨g, 5, none⟩ = some (.int .i64 x0.f5) ∧ w3.cell? ⟨g, 16, none⟩ = some (.int .i64 now) := ⟨(CD.out.below hB).blk.c0, (CD.out.below hB).blk.c1, (CD.out.below hB).blk.c2, (CD.out.below hB).blk.c3, (CD.out.below hB).blk.c4, (CD.out.below hB).blk.c5, (CD.out.below hB).blk.c16⟩
  refine norm_ (a' := ?_) ?_ ?_
  rotate_left
  · simp only [putAll, Act.put, List.setIfInBounds_toArray, List.set_cons_zero, List.set_cons_succ]
    rfl
  refine last_ (i := 16) (N := none) #[true, true, true, true, true, true, true, true, true, true, true, true, true, true, true, true, true, false, false] rfl rfl (by kernel_rfl) (by decide) (fun K hK => ?_)
  have z0 := hZ.c0; have z1 := hZ.c1; have z2 := hZ.c2; have z3 := hZ.c3; have z4 := hZ.c4; have z5 := hZ.c5; have y := blk_frozen hZ
  refine skip_ (w1 := ?_) (by rfl) rfl ?_ ?_
  rotate_left
  · go_simp
    rfl
  obtain ⟨w4, hw9, Z9, F9⟩ := six hZ (.slice A5 x.f0.length k5) x.f1 x.f2 (.slice A6 x.f3.length k6) x.f4 x.f5
  rw [← hw9]
  clear hw9 z0 z1 z2 z3 z4 z5 y
  refine hK.out _ _ ?_
  clear hK K
  refine pure_ (i := 17) (N := some 6) (v := ?_) (a' := ?_) #[true, true, true, true, true, true, true, true, true, true, true, true, true, true, true, true, true, true, false] rfl rfl (by kernel_rfl) (fun _ _ _ h => h) (Or.inl ⟨by rfl, ?_⟩) ?_ ?_
  rotate_left
  · intro w'
    go_simp
    with_reducible rfl
  rotate_left
  · simp only [Act.put, List.setIfInBounds_toArray, List.set_cons_zero, List.set_cons_succ, i64_w, i32_w]
    rfl
  refine pure_ (i := 18) (N := some 7) (v := ?_) (a' := ?_) #[true, true, true, true, true, true, true, true, true, true, true, true, true, true, true, true, true, true, true] rfl rfl (by kernel_rfl) (fun _ _ _ h => h) (Or.inl ⟨by rfl, ?_⟩) ?_ ?_
  rotate_left
  · intro w'
    go_simp
    with_reducible rfl
  rotate_left
  · simp only [Act.put, List.setIfInBounds_toArray, List.set_cons_zero, List.set_cons_succ, i64_w, i32_w]
    rfl
  refine done_ (by kernel_rfl) ?_

  have hB4 : Below wd.heap.size wd w4 := Fr.below F9 hB (Nat.le_refl _) (fun k hk => by omega)
  have C4 := Lib.hid (CD.out.below hB4)
  have O4 := Lib.hid (Kd.V_mono (Kd.V_step hO (fun k hk hlt => F9.same k hlt hk.2)) (fun k hk => CD.out.fresh hk.1))
  have I4 := Lib.hid (Kd.V_mono (Kd.V_step hI (fun k hk hlt => F9.same k hlt hk.2)) (fun k hk => CD.out.fresh hk.1))
  have V4 := Lib.hid (Kd.R_step hV (fun k hk hlt => F9.same k hlt hk.2))
  have Z4 := Lib.hid Z9
  have B4 := Lib.hid (bb HWS.out hB4)
  have TL := Lib.hid htle
  clear hO hI hV F9 hB hB4 hZ Z9 htle hHeld HQ
  by_cases hr : r = 0
  · subst hr
    go_wp2_with fail
    replace C4 := Lib.hid (C4.out.below (below_drew (Below.refl _ _))); replace O4 := Lib.hid (Kd.V_drew O4.out); replace I4 := Lib.hid (Kd.V_drew I4.out); replace V4 := Lib.hid (Kd.R_drew V4.out); replace Z4 := Lib.hid (Z4.out.below (below_drew (Below.refl _ _)))
    refine start_ (n := 7) (S := fun w' => w'.cell? ⟨t, 0, none⟩ = some (.slice A5 x.f0.length k5) ∧ w'.cell? ⟨t, 1, none⟩ = some (.int .i64 x.f1) ∧ w'.cell? ⟨t, 2, none⟩ = some (.int .i64 x.f2) ∧ w'.cell? ⟨t, 3, none⟩ = some (.slice A6 x.f3.length k6) ∧ w'.cell? ⟨t, 4, none⟩ = some (.bool x.f4) ∧ w'.cell? ⟨t, 5, none⟩ = some (.int .i64 x.f5)) (ds := [6]) #[false, false, false, false, false, false, false] (by kernel_rfl) rfl rfl ⟨Z4.out.c0, Z4.out.c1, Z4.out.c2, Z4.out.c3, Z4.out.c4, Z4.out.c5⟩ (fun hHeld => ?_)
    generalize w4.drew = w5 at C4 O4 I4 V4 Z4 hHeld ⊢
    refine pure_ (i := 0) (N := some 25) (v := ?_) (a' := ?_) #[true, false, false, false, false, false, false] rfl rfl (by kernel_rfl) (fun _ _ _ h => h) (Or.inl ⟨by rfl, ?_⟩) ?_ ?_
    rotate_left
    · intro w'
      go_simp
      with_reducible rfl
    rotate_left
    · simp only [Act.put, List.setIfInBounds_toArray, List.set_cons_zero, List.set_cons_succ, i64_w, i32_w]
      rfl
    refine pure_ (i := 1) (N := some 26) (v := ?_) (a' := ?_) #[true, true, false, false, false, false, false] rfl rfl (by kernel_rfl) (fun _ _ _ h => h) (Or.inl ⟨by rfl, ?_⟩) ?_ ?_
    rotate_left
    · intro w'
      go_simp
      with_reducible rfl
    rotate_left
    · simp only [Act.put, List.setIfInBounds_toArray, List.set_cons_zero, List.set_cons_succ, i64_w, i32_w]
      rfl
    refine pure_ (i := 3) (N := some 28) (v := ?_) (a' := ?_) #[true, true, false, true, false, false, false] rfl rfl (by kernel_rfl) (fun _ _ _ h => h) (Or.inl ⟨by rfl, ?_⟩) ?_ ?_
    rotate_left
    · intro w'
      go_simp
      with_reducible rfl
    rotate_left
    · simp only [Act.put, List.setIfInBounds_toArray, List.set_cons_zero, List.set_cons_succ, i64_w, i32_w]
      rfl
    refine pure_ (i := 4) (N := some 29) (v := ?_) (a' := ?_) #[true, true, false, true, true, false, false] rfl rfl (by kernel_rfl) (fun _ _ _ h => h) (Or.inl ⟨by rfl, ?_⟩) ?_ ?_
    rotate_left
    · intro w'
      go_simp
      with_reducible rfl
    rotate_left
    · simp only [Act.put, List.setIfInBounds_toArray, List.set_cons_zero, List.set_cons_succ, i64_w, i32_w]
      rfl
    refine take_ (i := 2) (N := some 27) (v := ?_) (a' := ?_) #[true, true, true, true, true, false, false] rfl rfl (by kernel_rfl) (fun _ _ _ h => h) (Or.inl ⟨by rfl, ?_⟩) hHeld ?_ ?_
    rotate_left
    · rintro w' ⟨s0, s1, s2, s3, s4, s5⟩
      go_simp
      with_reducible rfl
    rotate_left
    · simp only [Act.put, List.setIfInBounds_toArray, List.set_cons_zero, List.set_cons_succ, i64_w, i32_w]
      rfl
    refine pure_ (i := 5) (N := some 30) (v := ?_) (a' := ?_) #[true, true, true, true, true, true, false] rfl rfl (by kernel_rfl) (fun _ _ _ h => h) (Or.inl ⟨by rfl, ?_⟩) ?_ ?_
    rotate_left
    · intro w'
      go_simp
      with_reducible rfl
    rotate_left
    · simp only [Act.put, List.setIfInBounds_toArray, List.set_cons_zero, List.set_cons_succ, i64_w, i32_w]
      rfl
    refine last_ (i := 6) (N := none) #[true, true, true, true, true, true, true] rfl rfl (by kernel_rfl) (by decide) (fun K hK => ?_)
    have z0 := C4.out.blk.c0; have z1 := C4.out.blk.c1; have z2 := C4.out.blk.c2; have z3 := C4.out.blk.c3; have z4 := C4.out.blk.c4; have z5 := C4.out.blk.c5; have y := blk_frozen C4.out.blk
    refine skip_ (w1 := ?_) (by rfl) rfl ?_ ?_
    rotate_left
    · go_simp
      rfl
    obtain ⟨w6, hw9, hB9, F9⟩ := C4.out.blk.end0 (.slice A5 x.f0.length k5) (.slice A6 x.f3.length k6) x
    rw [← hw9]
    clear hw9 z0 z1 z2 z3 z4 z5 y
    refine hK.out _ _ ?_
    clear hK K
    refine done_ (by kernel_rfl) ?_

    have C6 := Lib.hid (C4.out.set0 F9 hB9 O4.out I4.out)
    have gne : ∀ k, (wd.heap.size ≤ k ∧ k ≠ t) → k ≠ g := fun k hk e => by have := heap_lt CD.out.blk; omega
    have V6 := Lib.hid (Kd.R_step V4.out (fun k hk hlt => F9.same k hlt (gne k hk)))
    have fr := fun k (hk : wd.heap.size ≤ k ∧ k ≠ t) => CD.out.fresh hk.1
    have FRS := Lib.hid fr
    clear C4 O4 I4 V4 Z4 F9 hB9 gne fr hHeld
    go_wp2_with fail
    replace C6 := Lib.hid (C6.out.below (below_drew (Below.refl _ _))); replace V6 := Lib.hid (Kd.R_drew V6.out)
    have hw1 := wr1; have hw0 := wr0
    refine start_ (n := 16) (S := fun w' => w'.cell? ⟨g, 13, none⟩ = some w1) (ds := [15]) #[false, false, false, false, false, false, false, false, false, false, false, false, false, false, false, false] (by kernel_rfl) rfl rfl (C6.out.blk.c13) (fun hHeld => ?_)
    generalize w6.drew = w7 at C6 V6 hHeld ⊢
    refine pure_ (i := 0) (N := some 31) (v := ?_) (a' := ?_) #[true, false, false, false, false, false, false, false, false, false, false, false, false, false, false, false] rfl rfl (by kernel_rfl) (fun _ _ _ h => h) (Or.inl ⟨by rfl, ?_⟩) ?_ ?_
    rotate_left
    · intro w'
      go_simp
      with_reducible rfl
    rotate_left
    · simp only [Act.put, List.setIfInBounds_toArray, List.set_cons_zero, List.set_cons_succ, i64_w, i32_w]
      rfl
    refine pure_ (i := 1) (N := some 32) (v := ?_) (a' := ?_) #[true, true, false, false, false, false, false, false, false, false, false, false, false, false, false, false] rfl rfl (by kernel_rfl) (fun _ _ _ h => h) (Or.inl ⟨by rfl, ?_⟩) ?_ ?_
    rotate_left
    · intro w'
      go_simp
      with_reducible rfl
    rotate_left
    · simp only [Act.put, List.setIfInBounds_toArray, List.set_cons_zero, List.set_cons_succ, i64_w, i32_w]
      rfl
    refine pure_ (i := 2) (N := some 33) (v := ?_) (a' := ?_) #[true, true, true, false, false, false, false, false, false, false, false, false, false, false, false, false] rfl rfl (by kernel_rfl) (fun _ _ _ h => h) (Or.inl ⟨by rfl, ?_⟩) ?_ ?_
    rotate_left
    · intro w'
      go_simp
      with_reducible rfl
    rotate_left
    · simp only [Act.put, List.setIfInBounds_toArray, List.set_cons_zero, List.set_cons_succ, i64_w, i32_w]
      rfl
    refine pure_ (i := 3) (N := some 34) (v := ?_) (a' := ?_) #[true, true, true, true, false, false, false, false, false, false, false, false, false, false, false, false] rfl rfl (by kernel_rfl) (fun _ _ _ h => h) (Or.inl ⟨by rfl, ?_⟩) ?_ ?_
    rotate_left
    · intro w'
      go_simp
      with_reducible rfl
    rotate_left
    · simp only [Act.put, List.setIfInBounds_toArray, List.set_cons_zero, List.set_cons_succ, i64_w, i32_w]
      rfl
    refine pure_ (i := 4) (N := some 35) (v := ?_) (a' := ?_) #[true, true, true, true, true, false, false, false, false, false, false, false, false, false, false, false] rfl rfl (by kernel_rfl) (fun _ _ _ h => h) (Or.inl ⟨by rfl, ?_⟩) ?_ ?_
    rotate_left
    · intro w'
      go_simp
      with_reducible rfl
    rotate_left
    · simp only [Act.put, List.setIfInBounds_toArray, List.set_cons_zero, List.set_cons_succ, i64_w, i32_w]
      rfl
    refine pure_ (i := 5) (N := some 36) (v := ?_) (a' := ?_) #[true, true, true, true, true, true, false, false, false, false, false, false, false, false, false, false] rfl rfl (by kernel_rfl) (fun _ _ _ h => h) (Or.inl ⟨by rfl, ?_⟩) ?_ ?_
    rotate_left
    · intro w'
      go_simp
      with_reducible rfl
    rotate_left
    · simp only [Act.put, List.setIfInBounds_toArray, List.set_cons_zero, List.set_cons_succ, i64_w, i32_w]
      rfl
    refine pure_ (i := 6) (N := some 37) (v := ?_) (a' := ?_) #[true, true, true, true, true, true, true, false, false, false, false, false, false, false, false, false] rfl rfl (by kernel_rfl) (fun _ _ _ h => h) (Or.inl ⟨by rfl, ?_⟩) ?_ ?_
    rotate_left
    · intro w'
      go_simp
      with_reducible rfl
    rotate_left
    · simp only [Act.put, List.setIfInBounds_toArray, List.set_cons_zero, List.set_cons_succ, i64_w, i32_w]
      rfl
    refine pure_ (i := 7) (N := some 38) (v := ?_) (a' := ?_) #[true, true, true, true, true, true, true, true, false, false, false, false, false, false, false, false] rfl rfl (by kernel_rfl) (fun _ _ _ h => h) (Or.inl ⟨by rfl, ?_⟩) ?_ ?_
    rotate_left
    · intro w'
      go_simp
      with_reducible rfl
    rotate_left
    · simp only [Act.put, List.setIfInBounds_toArray, List.set_cons_zero, List.set_cons_succ, i64_w, i32_w]
      rfl
    refine pure_ (i := 8) (N := some 39) (v := ?_) (a' := ?_) #[true, true, true, true, true, true, true, true, true, false, false, false, false, false, false, false] rfl rfl (by kernel_rfl) (fun _ _ _ h => h) (Or.inl ⟨by rfl, ?_⟩) ?_ ?_
    rotate_left
    · intro w'
      go_simp
      with_reducible rfl
    rotate_left
    · simp only [Act.put, List.setIfInBounds_toArray, List.set_cons_zero, List.set_cons_succ, i64_w, i32_w]
      rfl
    refine pure_ (i := 10) (N := some 41) (v := ?_) (a' := ?_) #[true, true, true, true, true, true, true, true, true, false, true, false, false, false, false, false] rfl rfl (by kernel_rfl) (fun _ _ _ h => h) (Or.inl ⟨by rfl, ?_⟩) ?_ ?_
    rotate_left
    · intro w'
      go_simp
      with_reducible rfl
    rotate_left
    · simp only [Act.put, List.setIfInBounds_toArray, List.set_cons_zero, List.set_cons_succ, i64_w, i32_w]
      rfl
    refine pure_ (i := 12) (N := some 43) (v := ?_) (a' := ?_) #[true, true, true, true, true, true, true, true, true, false, true, false, true, false, false, false] rfl rfl (by kernel_rfl) (fun _ _ _ h => h) (Or.inl ⟨by rfl, ?_⟩) ?_ ?_
    rotate_left
    · intro w'
      go_simp
      with_reducible rfl
    rotate_left
    · simp only [Act.put, List.setIfInBounds_toArray, List.set_cons_zero, List.set_cons_succ, i64_w, i32_w]
      rfl
    refine pure_ (i := 13) (N := some 44) (v := ?_) (a' := ?_) #[true, true, true, true, true, true, true, true, true, false, true, false, true, true, false, false] rfl rfl (by kernel_rfl) (fun _ _ _ h => h) (Or.inl ⟨by rfl, ?_⟩) ?_ ?_
    rotate_left
    · intro w'
      go_simp
      with_reducible rfl
    rotate_left
    · simp only [Act.put, List.setIfInBounds_toArray, List.set_cons_zero, List.set_cons_succ, i64_w, i32_w]
      rfl
    refine take_ (i := 9) (N := some 40) (v := ?_) (a' := ?_) #[true, true, true, true, true, true, true, true, true, true, true, false, true, true, false, false] rfl rfl (by kernel_rfl) (fun _ _ _ h => h) (Or.inl ⟨by rfl, ?_⟩) hHeld ?_ ?_
    rotate_left
    · intro w' s0
      go_simp
      with_reducible rfl
    rotate_left
    · simp only [Act.put, List.setIfInBounds_toArray, List.set_cons_zero, List.set_cons_succ, i64_w, i32_w]
      rfl
    refine one_ (i := 11) (N := some 42) #[true, true, true, true, true, true, true, true, true, true, true, true, true, true, false, false] rfl rfl (by kernel_rfl) (by decide) (fun K hK => ?_)
    obtain ⟨Av, kv, hvl, hvle, hrr⟩ := OwnRow.reads V6.out.2
    refine Kd.R_append_rows_step (Rr := k83.M w7 w.heap.size (fun k => wd.heap.size ≤ k ∧ k ≠ t)) k83 (w0 := w) w.heap.size (by rfl) (.tmp 40) (.tmp 41) 65 83 (.agg #[.int .i64 0, .bool false, .slice none 0 0]) 40 (by rfl) Try.underlying65 info83 rfl (by decide) (by decide) w1 l1 l Av l.length kv (fun k => k ≠ g ∧ some k ≠ w0.ownBlock ∧ some k ≠ p0.ownBlock ∧ some k ≠ p1.ownBlock) (fun k => wd.heap.size ≤ k ∧ k ≠ t) (by rfl) (by rw [← hvl]; rfl) C6.out.ww1 (hrr.imp_ (Below.refl _ _) (fun _ _ hp => k83.M_lower CD.out.low.size (k83.M_mono (fun _ hk => hk.1) hp))) (fun _ _ hp => hp) (fun k hk => ⟨⟨(FRS.out k hk).1, (FRS.out k hk).2.1, (FRS.out k hk).2.2.2⟩, (FRS.out k hk).2.2.1⟩) (fun k hk => ⟨(C6.out.fresh hk).1, (C6.out.fresh hk).2.1, (C6.out.fresh hk).2.2.2⟩) C6.out.low C6.out.low.size (by have := HW.out; have := HLL.out; omega) ?_
    intro v8 w8 hR8 hb8 hg8 hat8
    obtain ⟨A8, k8, hv8⟩ := Kd.R_slice hR8
    subst hv8
    have hlen : (l1 ++ l).length = l1.length + l.length := List.length_append
    simp only [hlen] at hR8 hg8 hat8 ⊢
    clear hlen
    refine hK.out _ _ ((show ChB w8 g _ _ _ _ _ _ w0 w1 p0 p1 now from blk_grown C6.out.blk hg8 (fun e => (C6.out.ww1.1 g e.symm).1 rfl)).c13) (fun hHeld => ?_)
    clear hK K
    refine norm_ (a' := ?_) ?_ ?_
    rotate_left
    · show Act.put _ (some 42) _ = _
      simp only [Act.put, List.setIfInBounds_toArray, List.set_cons_zero, List.set_cons_succ, i64_w, i32_w]
      rfl
    refine pure_ (i := 14) (N := some 45) (v := ?_) (a' := ?_) #[true, true, true, true, true, true, true, true, true, true, true, true, true, true, true, false] rfl rfl (by kernel_rfl) (fun _ _ _ h => h) (Or.inl ⟨by rfl, ?_⟩) ?_ ?_
    rotate_left
    · intro w'
      go_simp
      with_reducible rfl
    rotate_left
    · simp only [Act.put, List.setIfInBounds_toArray, List.set_cons_zero, List.set_cons_succ, i64_w, i32_w]
      rfl
    refine last_ (i := 15) (N := none) #[true, true, true, true, true, true, true, true, true, true, true, true, true, true, true, true] rfl rfl (by kernel_rfl) (by decide) (fun K hK => ?_)
    have hblk8 : ChB w8 g _ _ _ _ _ _ w0 w1 p0 p1 now := blk_grown C6.out.blk hg8 (fun e => (C6.out.ww1.1 g e.symm).1 rfl)
    have q1 := hblk8.c13; have q2 := blk_frozen hblk8 13
    refine skip_ (w1 := ?_) (by rfl) rfl ?_ ?_
    rotate_left
    · go_simp
      rfl
    refine hK.out _ _ ?_
    clear hK K
    refine done_ (by kernel_rfl) ?_

    have C9 := Lib.hid (C6.out.way1 hb8 hg8 hat8 hR8)
    clear hR8 hb8 hg8 hat8 hblk8 q1 q2 hrr
    go_wp2_with fail
    go_ret
    exact ⟨rfl, .slice A5 x.f0.length k5, .slice A6 x.f3.length k6, .slice A8 (l1.length + l.length) k8, C9.out⟩
  · have hz : (r != 0) = true := by simpa using hr
    have HRN := Lib.hid hr
    clear hr
    go_wp2_with fail
    go_ret
    exact Or.inl ⟨HRN.out, rfl, B4.out⟩
set_option maxHeartbeats 16000000 in
set_option maxRecDepth 100000 in
theorem pollCh1 (w W : World) (g : Nat) (vo0 vi0 : Value) (x0 : S61) (vo1 vi1 : Value) (x1 : S61) (w0 w1 : Value) (l0 l1 : List S83) (p0 p1 : Value) (r0 r1 : List S39) (now : Int) (h : Chan w W g vo0 vi0 x0 vo1 vi1 x1 w0 w1 l0 l1 p0 p1 r0 r1 now) (hl : x1.f3.length ≤ 1000000) (hw : l0.length ≤ 1000000) (x : S61) (l : List S83) (r : Int) (heq : pollF x1 now = (x, l, r)) (hll : l.length ≤ 2) :
    Calls Try.prog 36 #[.pointer (some ⟨g, 0, none⟩), .int .i64 1] W fun e W' => (r ≠ 0 ∧ e = .returned (.bool false) ∧ Below W.heap.size W W') ∨ (r = 0 ∧ e = .returned (.bool true) ∧ ∃ vo vi wv, Chan w W' g vo0 vi0 x0 vo vi x wv w1 (l0 ++ l) l1 p0 p1 r0 r1 now) := by
  obtain ⟨AO, cO, hvo⟩ := Kd.V_slice h.o1
  obtain ⟨AI, cI, hvi⟩ := Kd.V_slice h.i1
  subst hvo hvi
  have C := Lib.hid h; have HL := Lib.hid hl; have HW := Lib.hid hw; have HQ := Lib.hid heq; have HLL := Lib.hid hll
  clear h hl hw heq hll
  go_enter Try.func36, Try.ntmps36
  go_wp2_with fail
  have HWS := Lib.hid (show Below W.heap.size W W.drew from below_drew (Below.refl _ _))
  have CD := Lib.hid (C.out.below (below_drew (Below.refl _ _)))
  refine start_ (n := 19) (S := fun w' => w'.cell? ⟨g, 6, none⟩ = some (.slice AO x1.f0.length cO) ∧ w'.cell? ⟨g, 7, none⟩ = some (.int .i64 x1.f1) ∧ w'.cell? ⟨g, 8, none⟩ = some (.int .i64 x1.f2) ∧ w'.cell? ⟨g, 9, none⟩ = some (.slice AI x1.f3.length cI) ∧ w'.cell? ⟨g, 10, none⟩ = some (.bool x1.f4) ∧ w'.cell? ⟨g, 11, none⟩ = some (.int .i64 x1.f5) ∧ w'.cell? ⟨g, 16, none⟩ = some (.int .i64 now)) (ds := [16]) #[false, false, false, false, false, false, false, false, false, false, false, false, false, false, false, false, false, false, false] (by kernel_rfl) rfl rfl ⟨CD.out.blk.c6, CD.out.blk.c7, CD.out.blk.c8, CD.out.blk.c9, CD.out.blk.c10, CD.out.blk.c11, CD.out.blk.c16⟩ (fun hHeld => ?_)
  generalize W.drew = wd at CD HWS hHeld ⊢
  refine pure_ (i := 0) (N := some 9) (v := ?_) (a' := ?_) #[true, false, false, false, false, false, false, false, false, false, false, false, false, false, false, false, false, false, false] rfl rfl (by kernel_rfl) (fun _ _ _ h => h) (Or.inl ⟨by rfl, ?_⟩) ?_ ?_
  rotate_left
  · intro w'
    go_simp
    with_reducible rfl
  rotate_left
  · simp only [Act.put, List.setIfInBounds_toArray, List.set_cons_zero, List.set_cons_succ, i64_w, i32_w]
    rfl
  refine pure_ (i := 1) (N := some 10) (v := ?_) (a' := ?_) #[true, true, false, false, false, false, false, false, false, false, false, false, false, false, false, false, false, false, false] rfl rfl (by kernel_rfl) (fun _ _ _ h => h) (Or.inl ⟨by rfl, ?_⟩) ?_ ?_
  rotate_left
  · intro w'
    go_simp
    with_reducible rfl
  rotate_left
  · simp only [Act.put, List.setIfInBounds_toArray, List.set_cons_zero, List.set_cons_succ, i64_w, i32_w]
    rfl
  refine pure_ (i := 2) (N := some 11) (v := ?_) (a' := ?_) #[true, true, true, false, false, false, false, false, false, false, false, false, false, false, false, false, false, false, false] rfl rfl (by kernel_rfl) (fun _ _ _ h => h) (Or.inl ⟨by rfl, ?_⟩) ?_ ?_
  rotate_left
  · intro w'
    go_simp
    with_reducible rfl
  rotate_left
  · simp only [Act.put, List.setIfInBounds_toArray, List.set_cons_zero, List.set_cons_succ, i64_w, i32_w]
    rfl
  refine pure_ (i := 3) (N := some 12) (v := ?_) (a' := ?_) #[true, true, true, true, false, false, false, false, false, false, false, false, false, false, false, false, false, false, false] rfl rfl (by kernel_rfl) (fun _ _ _ h => h) (Or.inl ⟨by rfl, ?_⟩) ?_ ?_
  rotate_left
  · intro w'
    go_simp
    with_reducible rfl
  rotate_left
  · simp only [Act.put, List.setIfInBounds_toArray, List.set_cons_zero, List.set_cons_succ, i64_w, i32_w]
    rfl
  refine pure_ (i := 4) (N := some 13) (v := ?_) (a' := ?_) #[true, true, true, true, true, false, false, false, false, false, false, false, false, false, false, false, false, false, false] rfl rfl (by kernel_rfl) (fun _ _ _ h => h) (Or.inl ⟨by rfl, ?_⟩) ?_ ?_
  rotate_left
  · intro w'
    go_simp
    with_reducible rfl
  rotate_left
  · simp only [Act.put, List.setIfInBounds_toArray, List.set_cons_zero, List.set_cons_succ, i64_w, i32_w]
    rfl
  refine pure_ (i := 6) (N := some 15) (v := ?_) (a' := ?_) #[true, true, true, true, true, false, true, false, false, false, false, false, false, false, false, false, false, false, false] rfl rfl (by kernel_rfl) (fun _ _ _ h => h) (Or.inl ⟨by rfl, ?_⟩) ?_ ?_
  rotate_left
  · intro w'
    go_simp
    with_reducible rfl
  rotate_left
  · simp only [Act.put, List.setIfInBounds_toArray, List.set_cons_zero, List.set_cons_succ, i64_w, i32_w]
    rfl
  refine pure_ (i := 7) (N := some 16) (v := ?_) (a' := ?_) #[true, true, true, true, true, false, true, true, false, false, false, false, false, false, false, false, false, false, false] rfl rfl (by kernel_rfl) (fun _ _ _ h => h) (Or.inl ⟨by rfl, ?_⟩) ?_ ?_
  rotate_left
  · intro w'
    go_simp
    with_reducible rfl
  rotate_left
  · simp only [Act.put, List.setIfInBounds_toArray, List.set_cons_zero, List.set_cons_succ, i64_w, i32_w]
    rfl
  refine pure_ (i := 8) (N := some 17) (v := ?_) (a' := ?_) #[true, true, true, true, true, false, true, true, true, false, false, false, false, false, false, false, false, false, false] rfl rfl (by kernel_rfl) (fun _ _ _ h => h) (Or.inl ⟨by rfl, ?_⟩) ?_ ?_
  rotate_left
  · intro w'
    go_simp
    with_reducible rfl
  rotate_left
  · simp only [Act.put, List.setIfInBounds_toArray, List.set_cons_zero, List.set_cons_succ, i64_w, i32_w]
    rfl
  refine take_ (i := 5) (N := some 14) (v := ?_) (a' := ?_) #[true, true, true, true, true, true, true, true, true, false, false, false, false, false, false, false, false, false, false] rfl rfl (by kernel_rfl) (fun _ _ _ h => h) (Or.inl ⟨by rfl, ?_⟩) hHeld ?_ ?_
  rotate_left
  · rintro w' ⟨s0, s1, s2, s3, s4, s5, s6⟩
    go_simp
    with_reducible rfl
  rotate_left
  · simp only [Act.put, List.setIfInBounds_toArray, List.set_cons_zero, List.set_cons_succ, i64_w, i32_w]
    rfl
  refine take_ (i := 9) (N := some 18) (v := ?_) (a' := ?_) #[true, true, true, true, true, true, true, true, true, true, false, false, false, false, false, false, false, false, false] rfl rfl (by kernel_rfl) (fun _ _ _ h => h) (Or.inl ⟨by rfl, ?_⟩) hHeld ?_ ?_
  rotate_left
  · rintro w' ⟨s0, s1, s2, s3, s4, s5, s6⟩
    go_simp
    with_reducible rfl
  rotate_left
  · simp only [Act.put, List.setIfInBounds_toArray, List.set_cons_zero, List.set_cons_succ, i64_w, i32_w]
    rfl
  refine join_ (σ := Nat × Option Addr × Nat × Option Addr × Nat × Value) 3 #[true, true, true, true, true, true, true, true, true, true, true, true, true, true, true, true, false, false, false] (fun s => [(19, .tuple #[.agg #[.slice s.2.1 x.f0.length s.2.2.1, .int .i64 x.f1, .int .i64 x.f2, .slice s.2.2.2.1 x.f3.length s.2.2.2.2.1, .bool x.f4, .int .i64 x.f5], s.2.2.2.2.2, .int .i64 r]), (5, .pointer (some ⟨s.1, 0, none⟩)), (8, .tuple #[.agg #[.slice s.2.1 x.f0.length s.2.2.1, .int .i64 x.f1, .int .i64 x.f2, .slice s.2.2.2.1 x.f3.length s.2.2.2.2.1, .bool x.f4, .int .i64 x.f5], s.2.2.2.2.2, .int .i64 r]), (20, .agg #[.slice s.2.1 x.f0.length s.2.2.1, .int .i64 x.f1, .int .i64 x.f2, .slice s.2.2.2.1 x.f3.length s.2.2.2.2.1, .bool x.f4, .int .i64 x.f5]), (21, s.2.2.2.2.2), (22, .int .i64 r)]) (fun s w' => Below wd.heap.size wd w' ∧ wd.heap.size ≤ s.1 ∧ EBlk w' s.1 61 (.slice none 0 0) 0 0 (.slice none 0 0) false 0 ∧ Kd.V kL 28 w' 0 (fun k => wd.heap.size ≤ k ∧ k ≠ s.1) (.slice s.2.1 x.f0.length s.2.2.1) x.f0 ∧ Kd.V k39 39 w' 0 (fun k => wd.heap.size ≤ k ∧ k ≠ s.1) (.slice s.2.2.2.1 x.f3.length s.2.2.2.2.1) x.f3 ∧ Kd.R k83 83 w' wd.heap.size (fun k => wd.heap.size ≤ k ∧ k ≠ s.1) s.2.2.2.2.2 l) ?_ ?_
  rotate_left
  · intro hCont
    refine two_ (i := 10) (j := 15) (Ni := some 19) (Nj := some 5) #[true, true, true, true, true, true, true, true, true, true, true, false, false, false, false, false, false, false, false] #[true, true, true, true, true, true, true, true, true, true, false, false, false, false, false, true, false, false, false] rfl rfl rfl rfl (by kernel_rfl) (by decide) (by decide) (fun K hK => ?_) (fun K hK => ?_)
    · skip
      refine goes_ Try.func44 (by kernel_rfl) rfl #[.agg #[.slice AO x1.f0.length cO, .int .i64 x1.f1, .int .i64 x1.f2, .slice AI x1.f3.length cI, .bool x1.f4, .int .i64 x1.f5], .int .i64 now] (by rfl) rfl rfl (by simp only [List.map_toArray, List.map_cons, List.map_nil]; rfl) ?_
      with_reducible refine (poll_lit HQ.out AO cO AI cI wd (Kd.V_reads' (CD.out.below (Below.refl _ _)).o1).2.2 (Kd.V_reads' (CD.out.below (Below.refl _ _)).i1).2.2 HL.out).mono ?_
      rintro e wx1 ⟨v, vl, rfl, hE, hV, hb⟩
      refine ⟨_, rfl, ?_⟩
      obtain ⟨A5, k5, A6, k6, rfl, hO, hI⟩ := six_read hE
      clear hE
      replace hV := Kd.R_mono (Kd.R_bound hV) (ok' := fun k => wd.heap.size ≤ k) (fun k hk => hk.2.1)
      have hB1 : Below wd.heap.size wd wx1 := hb
      clear hb
      refine hK.out _ _ ⟨(CD.out.below hB1).blk.c6, (CD.out.below hB1).blk.c7, (CD.out.below hB1).blk.c8, (CD.out.below hB1).blk.c9, (CD.out.below hB1).blk.c10, (CD.out.below hB1).blk.c11, (CD.out.below hB1).blk.c16⟩ (fun hHeld => ?_)
      clear hK K
      refine norm_ (a' := ?_) ?_ ?_
      rotate_left
      · show Act.put _ (some 19) _ = _
        simp only [Act.put, List.setIfInBounds_toArray, List.set_cons_zero, List.set_cons_succ, i64_w, i32_w]
        rfl
      refine pure_ (i := 11) (N := some 8) (v := ?_) (a' := ?_) #[true, true, true, true, true, true, true, true, true, true, true, true, false, false, false, false, false, false, false] rfl rfl (by kernel_rfl) (fun _ _ _ h => h) (Or.inl ⟨by rfl, ?_⟩) ?_ ?_
      rotate_left
      · intro w'
        go_simp
        with_reducible rfl
      rotate_left
      · simp only [Act.put, List.setIfInBounds_toArray, List.set_cons_zero, List.set_cons_succ, i64_w, i32_w]
        rfl
      refine pure_ (i := 12) (N := some 20) (v := ?_) (a' := ?_) #[true, true, true, true, true, true, true, true, true, true, true, true, true, false, false, false, false, false, false] rfl rfl (by kernel_rfl) (fun _ _ _ h => h) (Or.inl ⟨by rfl, ?_⟩) ?_ ?_
      rotate_left
      · intro w'
        go_simp
        with_reducible rfl
      rotate_left
      · simp only [Act.put, List.setIfInBounds_toArray, List.set_cons_zero, List.set_cons_succ, i64_w, i32_w]
        rfl
      refine pure_ (i := 13) (N := some 21) (v := ?_) (a' := ?_) #[true, true, true, true, true, true, true, true, true, true, true, true, true, true, false, false, false, false, false] rfl rfl (by kernel_rfl) (fun _ _ _ h => h) (Or.inl ⟨by rfl, ?_⟩) ?_ ?_
      rotate_left
      · intro w'
        go_simp
        with_reducible rfl
      rotate_left
      · simp only [Act.put, List.setIfInBounds_toArray, List.set_cons_zero, List.set_cons_succ, i64_w, i32_w]
        rfl
      refine pure_ (i := 14) (N := some 22) (v := ?_) (a' := ?_) #[true, true, true, true, true, true, true, true, true, true, true, true, true, true, true, false, false, false, false] rfl rfl (by kernel_rfl) (fun _ _ _ h => h) (Or.inl ⟨by rfl, ?_⟩) ?_ ?_
      rotate_left
      · intro w'
        go_simp
        with_reducible rfl
      rotate_left
      · simp only [Act.put, List.setIfInBounds_toArray, List.set_cons_zero, List.set_cons_succ, i64_w, i32_w]
        rfl
      refine one_ (i := 15) (N := some 5) #[true, true, true, true, true, true, true, true, true, true, true, true, true, true, true, true, false, false, false] rfl rfl (by kernel_rfl) (by decide) (fun K hK => ?_)
      refine value_ (w1 := ?_) (v := ?_) (by rfl) rfl ?_ ?_
      rotate_left 2
      · go_simp
        constructor
        all_goals rfl
      have hB2 : Below wd.heap.size wd (wx1.alloc (.cells #[.slice none 0 0, .int .i64 0, .int .i64 0, .slice none 0 0, .bool false, .int .i64 0] 61)) := al hB1 _
      have hZ := EBlk.new wx1 61 (.slice none 0 0) (.slice none 0 0) 0 0 0 false
      have htle : wd.heap.size ≤ wx1.heap.size := hB1.size
      replace hO := Kd.V_mono (Kd.V_alloc (Kd.V_bound hO) (.cells #[.slice none 0 0, .int .i64 0, .int .i64 0, .slice none 0 0, .bool false, .int .i64 0] 61)) (fun k hk => show wd.heap.size ≤ k ∧ k ≠ wx1.heap.size from ⟨hk.1, by have := hk.2; omega⟩)
      replace hI := Kd.V_mono (Kd.V_alloc (Kd.V_bound hI) (.cells #[.slice none 0 0, .int .i64 0, .int .i64 0, .slice none 0 0, .bool false, .int .i64 0] 61)) (fun k hk => show wd.heap.size ≤ k ∧ k ≠ wx1.heap.size from ⟨hk.1, by have := hk.2; omega⟩)
      replace hV := Kd.R_mono (Kd.R_alloc (Kd.R_bound hV) (.cells #[.slice none 0 0, .int .i64 0, .int .i64 0, .slice none 0 0, .bool false, .int .i64 0] 61)) (fun k hk => show wd.heap.size ≤ k ∧ k ≠ wx1.heap.size from ⟨hk.1, by have := hk.2.2.1; omega⟩)
      generalize wx1.alloc (.cells #[.slice none 0 0, .int .i64 0, .int .i64 0, .slice none 0 0, .bool false, .int .i64 0] 61) = wx2 at hB2 hZ hO hI hV ⊢
      refine hK.out _ _ ⟨(CD.out.below hB2).blk.c6, (CD.out.below hB2).blk.c7, (CD.out.below hB2).blk.c8, (CD.out.below hB2).blk.c9, (CD.out.below hB2).blk.c10, (CD.out.below hB2).blk.c11, (CD.out.below hB2).blk.c16⟩ (fun hHeld => ?_)
      clear hK K
      refine norm_ (a' := ?_) ?_ ?_
      rotate_left
      · show Act.put _ (some 5) _ = _
        simp only [Act.put, List.setIfInBounds_toArray, List.set_cons_zero, List.set_cons_succ, i64_w, i32_w]
        rfl
      exact norm_ (by simp only [putAll, Act.put, List.setIfInBounds_toArray, List.set_cons_zero, List.set_cons_succ] <;> rfl) (hCont (wx1.heap.size, A5, k5, A6, k6, vl) _ ⟨hB2, htle, hZ, hO, hI, hV⟩)
    · skip
      refine value_ (w1 := ?_) (v := ?_) (by rfl) rfl ?_ ?_
      rotate_left 2
      · go_simp
        constructor
        all_goals rfl
      have hB1 : Below wd.heap.size wd (wd.alloc (.cells #[.slice none 0 0, .int .i64 0, .int .i64 0, .slice none 0 0, .bool false, .int .i64 0] 61)) := below_one _ _
      have hZ := EBlk.new wd 61 (.slice none 0 0) (.slice none 0 0) 0 0 0 false
      have htle : wd.heap.size ≤ wd.heap.size := Nat.le_refl _
      generalize wd.alloc (.cells #[.slice none 0 0, .int .i64 0, .int .i64 0, .slice none 0 0, .bool false, .int .i64 0] 61) = wx1 at hB1 hZ ⊢
      refine hK.out _ _ ⟨(CD.out.below hB1).blk.c6, (CD.out.below hB1).blk.c7, (CD.out.below hB1).blk.c8, (CD.out.below hB1).blk.c9, (CD.out.below hB1).blk.c10, (CD.out.below hB1).blk.c11, (CD.out.below hB1).blk.c16⟩ (fun hHeld => ?_)
      clear hK K
      refine norm_ (a' := ?_) ?_ ?_
      rotate_left
      · show Act.put _ (some 5) _ = _
        simp only [Act.put, List.setIfInBounds_toArray, List.set_cons_zero, List.set_cons_succ, i64_w, i32_w]
        rfl
      refine one_ (i := 10) (N := some 19) #[true, true, true, true, true, true, true, true, true, true, true, false, false, false, false, true, false, false, false] rfl rfl (by kernel_rfl) (by decide) (fun K hK => ?_)
      refine goes_ Try.func44 (by kernel_rfl) rfl #[.agg #[.slice AO x1.f0.length cO, .int .i64 x1.f1, .int .i64 x1.f2, .slice AI x1.f3.length cI, .bool x1.f4, .int .i64 x1.f5], .int .i64 now] (by rfl) rfl rfl (by simp only [List.map_toArray, List.map_cons, List.map_nil]; rfl) ?_
      with_reducible refine (poll_lit HQ.out AO cO AI cI wx1 (Kd.V_reads' (CD.out.below hB1).o1).2.2 (Kd.V_reads' (CD.out.below hB1).i1).2.2 HL.out).mono ?_
      rintro e wx2 ⟨v, vl, rfl, hE, hV, hb⟩
      refine ⟨_, rfl, ?_⟩
      obtain ⟨A5, k5, A6, k6, rfl, hO, hI⟩ := six_read hE
      clear hE
      replace hO := Kd.V_mono hO (ok' := fun k => wd.heap.size ≤ k ∧ k ≠ wd.heap.size) (fun k hk => show wd.heap.size ≤ k ∧ k ≠ wd.heap.size from ⟨by have := hB1.size; omega, by have := heap_lt hZ; omega⟩)
      replace hI := Kd.V_mono hI (ok' := fun k => wd.heap.size ≤ k ∧ k ≠ wd.heap.size) (fun k hk => show wd.heap.size ≤ k ∧ k ≠ wd.heap.size from ⟨by have := hB1.size; omega, by have := heap_lt hZ; omega⟩)
      replace hV := Kd.R_lower (Kd.R_mono (Kd.R_bound hV) (ok' := fun k => wd.heap.size ≤ k ∧ k ≠ wd.heap.size) (fun k hk => show wd.heap.size ≤ k ∧ k ≠ wd.heap.size from ⟨by have := hB1.size; have := hk.2.1; omega, by have := heap_lt hZ; have := hk.2.1; omega⟩)) hB1.size
      replace hZ := hZ.below hb
      have hB2 : Below wd.heap.size wd wx2 := bb hB1 hb
      clear hb
      refine hK.out _ _ ⟨(CD.out.below hB2).blk.c6, (CD.out.below hB2).blk.c7, (CD.out.below hB2).blk.c8, (CD.out.below hB2).blk.c9, (CD.out.below hB2).blk.c10, (CD.out.below hB2).blk.c11, (CD.out.below hB2).blk.c16⟩ (fun hHeld => ?_)
      clear hK K
      refine norm_ (a' := ?_) ?_ ?_
      rotate_left
      · show Act.put _ (some 19) _ = _
        simp only [Act.put, List.setIfInBounds_toArray, List.set_cons_zero, List.set_cons_succ, i64_w, i32_w]
        rfl
      refine pure_ (i := 11) (N := some 8) (v := ?_) (a' := ?_) #[true, true, true, true, true, true, true, true, true, true, true, true, false, false, false, true, false, false, false] rfl rfl (by kernel_rfl) (fun _ _ _ h => h) (Or.inl ⟨by rfl, ?_⟩) ?_ ?_
      rotate_left
      · intro w'
        go_simp
        with_reducible rfl
      rotate_left
      · simp only [Act.put, List.setIfInBounds_toArray, List.set_cons_zero, List.set_cons_succ, i64_w, i32_w]
        rfl
      refine pure_ (i := 12) (N := some 20) (v := ?_) (a' := ?_) #[true, true, true, true, true, true, true, true, true, true, true, true, true, false, false, true, false, false, false] rfl rfl (by kernel_rfl) (fun _ _ _ h => h) (Or.inl ⟨by rfl, ?_⟩) ?_ ?_
      rotate_left
      · intro w'
        go_simp
        with_reducible rfl
      rotate_left
      · simp only [Act.put, List.setIfInBounds_toArray, List.set_cons_zero, List.set_cons_succ, i64_w, i32_w]
        rfl
      refine pure_ (i := 13) (N := some 21) (v := ?_) (a' := ?_) #[true, true, true, true, true, true, true, true, true, true, true, true, true, true, false, true, false, false, false] rfl rfl (by kernel_rfl) (fun _ _ _ h => h) (Or.inl ⟨by rfl, ?_⟩) ?_ ?_
      rotate_left
      · intro w'
        go_simp
        with_reducible rfl
      rotate_left
      · simp only [Act.put, List.setIfInBounds_toArray, List.set_cons_zero, List.set_cons_succ, i64_w, i32_w]
        rfl
      refine pure_ (i := 14) (N := some 22) (v := ?_) (a' := ?_) #[true, true, true, true, true, true, true, true, true, true, true, true, true, true, true, true, false, false, false] rfl rfl (by kernel_rfl) (fun _ _ _ h => h) (Or.inl ⟨by rfl, ?_⟩) ?_ ?_
      rotate_left
      · intro w'
        go_simp
        with_reducible rfl
      rotate_left
      · simp only [Act.put, List.setIfInBounds_toArray, List.set_cons_zero, List.set_cons_succ, i64_w, i32_w]
        rfl
      exact norm_ (by simp only [putAll, Act.put, List.setIfInBounds_toArray, List.set_cons_zero, List.set_cons_succ] <;> rfl) (hCont (wd.heap.size, A5, k5, A6, k6, vl) _ ⟨hB2, htle, hZ, hO, hI, hV⟩)
  rintro ⟨t, A5, k5, A6, k6, vl⟩ w3 ⟨hB, htle, hZ, hO, hI, hV⟩
  have hHeld : w3.cell? ⟨g, 6, none⟩ = some (.slice AO x1.f0.length cO) ∧ w3.cell? ⟨g, 7, none⟩ = some (.int .i64 x1.f1) ∧ w3.cell? ⟨g, 8, none⟩ = some (.int .i64 x1.f2) ∧ w3.cell? ⟨g, 9, none⟩ = some (.slice AI x1.f3.length cI) ∧ w3.cell? ⟨g, 10, none⟩ = some (.bool x1.f4) ∧ w3.cell? ⟨g, 11, none⟩ = some (.int .i64 x1.f5) ∧ w3.cell? ⟨g, 16, none⟩ = some (.int .i64 now) := ⟨(CD.out.below hB).blk.c6, (CD.out.below hB).blk.c7, (CD.out.below hB).blk.c8, (CD.out.below hB).blk.c9, (CD.out.below hB).blk.c10, (CD.out.below hB).blk.c11, (CD.out.below hB).blk.c16⟩
  refine norm_ (a' := ?_) ?_ ?_
  rotate_left
  · simp only [putAll, Act.put, List.setIfInBounds_toArray, List.set_cons_zero, List.set_cons_succ]
    rfl
  refine last_ (i := 16) (N := none) #[true, true, true, true, true, true, true, true, true, true, true, true, true, true, true, true, true, false, false] rfl rfl (by kernel_rfl) (by decide) (fun K hK => ?_)
  have z0 := hZ.c0; have z1 := hZ.c1; have z2 := hZ.c2; have z3 := hZ.c3; have z4 := hZ.c4; have z5 := hZ.c5; have y := blk_frozen hZ
  refine skip_ (w1 := ?_) (by rfl) rfl ?_ ?_
  rotate_left
  · go_simp
    rfl
  obtain ⟨w4, hw9, Z9, F9⟩ := six hZ (.slice A5 x.f0.length k5) x.f1 x.f2 (.slice A6 x.f3.length k6) x.f4 x.f5
  rw [← hw9]
  clear hw9 z0 z1 z2 z3 z4 z5 y
  refine hK.out _ _ ?_
  clear hK K
  refine pure_ (i := 17) (N := some 6) (v := ?_) (a' := ?_) #[true, true, true, true, true, true, true, true, true, true, true, true, true, true, true, true, true, true, false] rfl rfl (by kernel_rfl) (fun _ _ _ h => h) (Or.inl ⟨by rfl, ?_⟩) ?_ ?_
  rotate_left
  · intro w'
    go_simp
    with_reducible rfl
  rotate_left
  · simp only [Act.put, List.setIfInBounds_toArray, List.set_cons_zero, List.set_cons_succ, i64_w, i32_w]
    rfl
  refine pure_ (i := 18) (N := some 7) (v := ?_) (a' := ?_) #[true, true, true, true, true, true, true, true, true, true, true, true, true, true, true, true, true, true, true] rfl rfl (by kernel_rfl) (fun _ _ _ h => h) (Or.inl ⟨by rfl, ?_⟩) ?_ ?_
  rotate_left
  · intro w'
    go_simp
    with_reducible rfl
  rotate_left
  · simp only [Act.put, List.setIfInBounds_toArray, List.set_cons_zero, List.set_cons_succ, i64_w, i32_w]
    rfl
  refine done_ (by kernel_rfl) ?_

  have hB4 : Below wd.heap.size wd w4 := Fr.below F9 hB (Nat.le_refl _) (fun k hk => by omega)
  have C4 := Lib.hid (CD.out.below hB4)
  have O4 := Lib.hid (Kd.V_mono (Kd.V_step hO (fun k hk hlt => F9.same k hlt hk.2)) (fun k hk => CD.out.fresh hk.1))
  have I4 := Lib.hid (Kd.V_mono (Kd.V_step hI (fun k hk hlt => F9.same k hlt hk.2)) (fun k hk => CD.out.fresh hk.1))
  have V4 := Lib.hid (Kd.R_step hV (fun k hk hlt => F9.same k hlt hk.2))
  have Z4 := Lib.hid Z9
  have B4 := Lib.hid (bb HWS.out hB4)
  have TL := Lib.hid htle
  clear hO hI hV F9 hB hB4 hZ Z9 htle hHeld HQ
  by_cases hr : r = 0
  · subst hr
    go_wp2_with fail
    replace C4 := Lib.hid (C4.out.below (below_drew (Below.refl _ _))); replace O4 := Lib.hid (Kd.V_drew O4.out); replace I4 := Lib.hid (Kd.V_drew I4.out); replace V4 := Lib.hid (Kd.R_drew V4.out); replace Z4 := Lib.hid (Z4.out.below (below_drew (Below.refl _ _)))
    refine start_ (n := 7) (S := fun w' => w'.cell? ⟨t, 0, none⟩ = some (.slice A5 x.f0.length k5) ∧ w'.cell? ⟨t, 1, none⟩ = some (.int .i64 x.f1) ∧ w'.cell? ⟨t, 2, none⟩ = some (.int .i64 x.f2) ∧ w'.cell? ⟨t, 3, none⟩ = some (.slice A6 x.f3.length k6) ∧ w'.cell? ⟨t, 4, none⟩ = some (.bool x.f4) ∧ w'.cell? ⟨t, 5, none⟩ = some (.int .i64 x.f5)) (ds := [6]) #[false, false, false, false, false, false, false] (by kernel_rfl) rfl rfl ⟨Z4.out.c0, Z4.out.c1, Z4.out.c2, Z4.out.c3, Z4.out.c4, Z4.out.c5⟩ (fun hHeld => ?_)
    generalize w4.drew = w5 at C4 O4 I4 V4 Z4 hHeld ⊢
    refine pure_ (i := 0) (N := some 25) (v := ?_) (a' := ?_) #[true, false, false, false, false, false, false] rfl rfl (by kernel_rfl) (fun _ _ _ h => h) (Or.inl ⟨by rfl, ?_⟩) ?_ ?_
    rotate_left
    · intro w'
      go_simp
      with_reducible rfl
    rotate_left
    · simp only [Act.put, List.setIfInBounds_toArray, List.set_cons_zero, List.set_cons_succ, i64_w, i32_w]
      rfl
    refine pure_ (i := 1) (N := some 26) (v := ?_) (a' := ?_) #[true, true, false, false, false, false, false] rfl rfl (by kernel_rfl) (fun _ _ _ h => h) (Or.inl ⟨by rfl, ?_⟩) ?_ ?_
    rotate_left
    · intro w'
      go_simp
      with_reducible rfl
    rotate_left
    · simp only [Act.put, List.setIfInBounds_toArray, List.set_cons_zero, List.set_cons_succ, i64_w, i32_w]
      rfl
    refine pure_ (i := 3) (N := some 28) (v := ?_) (a' := ?_) #[true, true, false, true, false, false, false] rfl rfl (by kernel_rfl) (fun _ _ _ h => h) (Or.inl ⟨by rfl, ?_⟩) ?_ ?_
    rotate_left
    · intro w'
      go_simp
      with_reducible rfl
    rotate_left
    · simp only [Act.put, List.setIfInBounds_toArray, List.set_cons_zero, List.set_cons_succ, i64_w, i32_w]
      rfl
    refine pure_ (i := 4) (N := some 29) (v := ?_) (a' := ?_) #[true, true, false, true, true, false, false] rfl rfl (by kernel_rfl) (fun _ _ _ h => h) (Or.inl ⟨by rfl, ?_⟩) ?_ ?_
    rotate_left
    · intro w'
      go_simp
      with_reducible rfl
    rotate_left
    · simp only [Act.put, List.setIfInBounds_toArray, List.set_cons_zero, List.set_cons_succ, i64_w, i32_w]
      rfl
    refine take_ (i := 2) (N := some 27) (v := ?_) (a' := ?_) #[true, true, true, true, true, false, false] rfl rfl (by kernel_rfl) (fun _ _ _ h => h) (Or.inl ⟨by rfl, ?_⟩) hHeld ?_ ?_
    rotate_left
    · rintro w' ⟨s0, s1, s2, s3, s4, s5⟩
      go_simp
      with_reducible rfl
    rotate_left
    · simp only [Act.put, List.setIfInBounds_toArray, List.set_cons_zero, List.set_cons_succ, i64_w, i32_w]
      rfl
    refine pure_ (i := 5) (N := some 30) (v := ?_) (a' := ?_) #[true, true, true, true, true, true, false] rfl rfl (by kernel_rfl) (fun _ _ _ h => h) (Or.inl ⟨by rfl, ?_⟩) ?_ ?_
    rotate_left
    · intro w'
      go_simp
      with_reducible rfl
    rotate_left
    · simp only [Act.put, List.setIfInBounds_toArray, List.set_cons_zero, List.set_cons_succ, i64_w, i32_w]
      rfl
    refine last_ (i := 6) (N := none) #[true, true, true, true, true, true, true] rfl rfl (by kernel_rfl) (by decide) (fun K hK => ?_)
    have z0 := C4.out.blk.c6; have z1 := C4.out.blk.c7; have z2 := C4.out.blk.c8; have z3 := C4.out.blk.c9; have z4 := C4.out.blk.c10; have z5 := C4.out.blk.c11; have y := blk_frozen C4.out.blk
    refine skip_ (w1 := ?_) (by rfl) rfl ?_ ?_
    rotate_left
    · go_simp
      rfl
    obtain ⟨w6, hw9, hB9, F9⟩ := C4.out.blk.end1 (.slice A5 x.f0.length k5) (.slice A6 x.f3.length k6) x
    rw [← hw9]
    clear hw9 z0 z1 z2 z3 z4 z5 y
    refine hK.out _ _ ?_
    clear hK K
    refine done_ (by kernel_rfl) ?_

    have C6 := Lib.hid (C4.out.set1 F9 hB9 O4.out I4.out)
    have gne : ∀ k, (wd.heap.size ≤ k ∧ k ≠ t) → k ≠ g := fun k hk e => by have := heap_lt CD.out.blk; omega
    have V6 := Lib.hid (Kd.R_step V4.out (fun k hk hlt => F9.same k hlt (gne k hk)))
    have fr := fun k (hk : wd.heap.size ≤ k ∧ k ≠ t) => CD.out.fresh hk.1
    have FRS := Lib.hid fr
    clear C4 O4 I4 V4 Z4 F9 hB9 gne fr hHeld
    go_wp2_with fail
    replace C6 := Lib.hid (C6.out.below (below_drew (Below.refl _ _))); replace V6 := Lib.hid (Kd.R_drew V6.out)
    have hw1 := wr1; have hw0 := wr0
    refine start_ (n := 16) (S := fun w' => w'.cell? ⟨g, 12, none⟩ = some w0) (ds := [15]) #[false, false, false, false, false, false, false, false, false, false, false, false, false, false, false, false] (by kernel_rfl) rfl rfl (C6.out.blk.c12) (fun hHeld => ?_)
    generalize w6.drew = w7 at C6 V6 hHeld ⊢
    refine pure_ (i := 0) (N := some 31) (v := ?_) (a' := ?_) #[true, false, false, false, false, false, false, false, false, false, false, false, false, false, false, false] rfl rfl (by kernel_rfl) (fun _ _ _ h => h) (Or.inl ⟨by rfl, ?_⟩) ?_ ?_
    rotate_left
    · intro w'
      go_simp
      with_reducible rfl
    rotate_left
    · simp only [Act.put, List.setIfInBounds_toArray, List.set_cons_zero, List.set_cons_succ, i64_w, i32_w]
      rfl
    refine pure_ (i := 1) (N := some 32) (v := ?_) (a' := ?_) #[true, true, false, false, false, false, false, false, false, false, false, false, false, false, false, false] rfl rfl (by kernel_rfl) (fun _ _ _ h => h) (Or.inl ⟨by rfl, ?_⟩) ?_ ?_
    rotate_left
    · intro w'
      go_simp
      with_reducible rfl
    rotate_left
    · simp only [Act.put, List.setIfInBounds_toArray, List.set_cons_zero, List.set_cons_succ, i64_w, i32_w]
      rfl
    refine pure_ (i := 2) (N := some 33) (v := ?_) (a' := ?_) #[true, true, true, false, false, false, false, false, false, false, false, false, false, false, false, false] rfl rfl (by kernel_rfl) (fun _ _ _ h => h) (Or.inl ⟨by rfl, ?_⟩) ?_ ?_
    rotate_left
    · intro w'
      go_simp
      with_reducible rfl
    rotate_left
    · simp only [Act.put, List.setIfInBounds_toArray, List.set_cons_zero, List.set_cons_succ, i64_w, i32_w]
      rfl
    refine pure_ (i := 3) (N := some 34) (v := ?_) (a' := ?_) #[true, true, true, true, false, false, false, false, false, false, false, false, false, false, false, false] rfl rfl (by kernel_rfl) (fun _ _ _ h => h) (Or.inl ⟨by rfl, ?_⟩) ?_ ?_
    rotate_left
    · intro w'
      go_simp
      with_reducible rfl
    rotate_left
    · simp only [Act.put, List.setIfInBounds_toArray, List.set_cons_zero, List.set_cons_succ, i64_w, i32_w]
      rfl
    refine pure_ (i := 4) (N := some 35) (v := ?_) (a' := ?_) #[true, true, true, true, true, false, false, false, false, false, false, false, false, false, false, false] rfl rfl (by kernel_rfl) (fun _ _ _ h => h) (Or.inl ⟨by rfl, ?_⟩) ?_ ?_
    rotate_left
    · intro w'
      go_simp
      with_reducible rfl
    rotate_left
    · simp only [Act.put, List.setIfInBounds_toArray, List.set_cons_zero, List.set_cons_succ, i64_w, i32_w]
      rfl
    refine pure_ (i := 5) (N := some 36) (v := ?_) (a' := ?_) #[true, true, true, true, true, true, false, false, false, false, false, false, false, false, false, false] rfl rfl (by kernel_rfl) (fun _ _ _ h => h) (Or.inl ⟨by rfl, ?_⟩) ?_ ?_
    rotate_left
    · intro w'
      go_simp
      with_reducible rfl
    rotate_left
    · simp only [Act.put, List.setIfInBounds_toArray, List.set_cons_zero, List.set_cons_succ, i64_w, i32_w]
      rfl
    refine pure_ (i := 6) (N := some 37) (v := ?_) (a' := ?_) #[true, true, true, true, true, true, true, false, false, false, false, false, false, false, false, false] rfl rfl (by kernel_rfl) (fun _ _ _ h => h) (Or.inl ⟨by rfl, ?_⟩) ?_ ?_
    rotate_left
    · intro w'
      go_simp
      with_reducible rfl
    rotate_left
    · simp only [Act.put, List.setIfInBounds_toArray, List.set_cons_zero, List.set_cons_succ, i64_w, i32_w]
      rfl
    refine pure_ (i := 7) (N := some 38) (v := ?_) (a' := ?_) #[true, true, true, true, true, true, true, true, false, false, false, false, false, false, false, false] rfl rfl (by kernel_rfl) (fun _ _ _ h => h) (Or.inl ⟨by rfl, ?_⟩) ?_ ?_
    rotate_left
    · intro w'
      go_simp
      with_reducible rfl
    rotate_left
    · simp only [Act.put, List.setIfInBounds_toArray, List.set_cons_zero, List.set_cons_succ, i64_w, i32_w]
      rfl
    refine pure_ (i := 8) (N := some 39) (v := ?_) (a' := ?_) #[true, true, true, true, true, true, true, true, true, false, false, false, false, false, false, false] rfl rfl (by kernel_rfl) (fun _ _ _ h => h) (Or.inl ⟨by rfl, ?_⟩) ?_ ?_
    rotate_left
    · intro w'
      go_simp
      with_reducible rfl
    rotate_left
    · simp only [Act.put, List.setIfInBounds_toArray, List.set_cons_zero, List.set_cons_succ, i64_w, i32_w]
      rfl
    refine pure_ (i := 10) (N := some 41) (v := ?_) (a' := ?_) #[true, true, true, true, true, true, true, true, true, false, true, false, false, false, false, false] rfl rfl (by kernel_rfl) (fun _ _ _ h => h) (Or.inl ⟨by rfl, ?_⟩) ?_ ?_
    rotate_left
    · intro w'
      go_simp
      with_reducible rfl
    rotate_left
    · simp only [Act.put, List.setIfInBounds_toArray, List.set_cons_zero, List.set_cons_succ, i64_w, i32_w]
      rfl
    refine pure_ (i := 12) (N := some 43) (v := ?_) (a' := ?_) #[true, true, true, true, true, true, true, true, true, false, true, false, true, false, false, false] rfl rfl (by kernel_rfl) (fun _ _ _ h => h) (Or.inl ⟨by rfl, ?_⟩) ?_ ?_
    rotate_left
    · intro w'
      go_simp
      with_reducible rfl
    rotate_left
    · simp only [Act.put, List.setIfInBounds_toArray, List.set_cons_zero, List.set_cons_succ, i64_w, i32_w]
      rfl
    refine pure_ (i := 13) (N := some 44) (v := ?_) (a' := ?_) #[true, true, true, true, true, true, true, true, true, false, true, false, true, true, false, false] rfl rfl (by kernel_rfl) (fun _ _ _ h => h) (Or.inl ⟨by rfl, ?_⟩) ?_ ?_
    rotate_left
    · intro w'
      go_simp
      with_reducible rfl
    rotate_left
    · simp only [Act.put, List.setIfInBounds_toArray, List.set_cons_zero, List.set_cons_succ, i64_w, i32_w]
      rfl
    refine take_ (i := 9) (N := some 40) (v := ?_) (a' := ?_) #[true, true, true, true, true, true, true, true, true, true, true, false, true, true, false, false] rfl rfl (by kernel_rfl) (fun _ _ _ h => h) (Or.inl ⟨by rfl, ?_⟩) hHeld ?_ ?_
    rotate_left
    · intro w' s0
      go_simp
      with_reducible rfl
    rotate_left
    · simp only [Act.put, List.setIfInBounds_toArray, List.set_cons_zero, List.set_cons_succ, i64_w, i32_w]
      rfl
    refine one_ (i := 11) (N := some 42) #[true, true, true, true, true, true, true, true, true, true, true, true, true, true, false, false] rfl rfl (by kernel_rfl) (by decide) (fun K hK => ?_)
    obtain ⟨Av, kv, hvl, hvle, hrr⟩ := OwnRow.reads V6.out.2
    refine Kd.R_append_rows_step (Rr := k83.M w7 w.heap.size (fun k => wd.heap.size ≤ k ∧ k ≠ t)) k83 (w0 := w) w.heap.size (by rfl) (.tmp 40) (.tmp 41) 65 83 (.agg #[.int .i64 0, .bool false, .slice none 0 0]) 40 (by rfl) Try.underlying65 info83 rfl (by decide) (by decide) w0 l0 l Av l.length kv (fun k => k ≠ g ∧ some k ≠ w1.ownBlock ∧ some k ≠ p0.ownBlock ∧ some k ≠ p1.ownBlock) (fun k => wd.heap.size ≤ k ∧ k ≠ t) (by rfl) (by rw [← hvl]; rfl) C6.out.ww0 (hrr.imp_ (Below.refl _ _) (fun _ _ hp => k83.M_lower CD.out.low.size (k83.M_mono (fun _ hk => hk.1) hp))) (fun _ _ hp => hp) (fun k hk => ⟨⟨(FRS.out k hk).1, (FRS.out k hk).2.2⟩, (FRS.out k hk).2.1⟩) (fun k hk => ⟨(C6.out.fresh hk).1, (C6.out.fresh hk).2.2⟩) C6.out.low C6.out.low.size (by have := HW.out; have := HLL.out; omega) ?_
    intro v8 w8 hR8 hb8 hg8 hat8
    obtain ⟨A8, k8, hv8⟩ := Kd.R_slice hR8
    subst hv8
    have hlen : (l0 ++ l).length = l0.length + l.length := List.length_append
    simp only [hlen] at hR8 hg8 hat8 ⊢
    clear hlen
    refine hK.out _ _ ((show ChB w8 g _ _ _ _ _ _ w0 w1 p0 p1 now from blk_grown C6.out.blk hg8 (fun e => (C6.out.ww0.1 g e.symm).1 rfl)).c12) (fun hHeld => ?_)
    clear hK K
    refine norm_ (a' := ?_) ?_ ?_
    rotate_left
    · show Act.put _ (some 42) _ = _
      simp only [Act.put, List.setIfInBounds_toArray, List.set_cons_zero, List.set_cons_succ, i64_w, i32_w]
      rfl
    refine pure_ (i := 14) (N := some 45) (v := ?_) (a' := ?_) #[true, true, true, true, true, true, true, true, true, true, true, true, true, true, true, false] rfl rfl (by kernel_rfl) (fun _ _ _ h => h) (Or.inl ⟨by rfl, ?_⟩) ?_ ?_
    rotate_left
    · intro w'
      go_simp
      with_reducible rfl
    rotate_left
    · simp only [Act.put, List.setIfInBounds_toArray, List.set_cons_zero, List.set_cons_succ, i64_w, i32_w]
      rfl
    refine last_ (i := 15) (N := none) #[true, true, true, true, true, true, true, true, true, true, true, true, true, true, true, true] rfl rfl (by kernel_rfl) (by decide) (fun K hK => ?_)
    have hblk8 : ChB w8 g _ _ _ _ _ _ w0 w1 p0 p1 now := blk_grown C6.out.blk hg8 (fun e => (C6.out.ww0.1 g e.symm).1 rfl)
    have q1 := hblk8.c12; have q2 := blk_frozen hblk8 12
    refine skip_ (w1 := ?_) (by rfl) rfl ?_ ?_
    rotate_left
    · go_simp
      rfl
    refine hK.out _ _ ?_
    clear hK K
    refine done_ (by kernel_rfl) ?_

    have C9 := Lib.hid (C6.out.way0 hb8 hg8 hat8 hR8)
    clear hR8 hb8 hg8 hat8 hblk8 q1 q2 hrr
    go_wp2_with fail
    go_ret
    exact ⟨rfl, .slice A5 x.f0.length k5, .slice A6 x.f3.length k6, .slice A8 (l0.length + l.length) k8, C9.out⟩
  · have hz : (r != 0) = true := by simpa using hr
    have HRN := Lib.hid hr
    clear hr
    go_wp2_with fail
    go_ret
    exact Or.inl ⟨HRN.out, rfl, B4.out⟩
end Go.Proofs.Ytbfhohpbldadbaa.P

namespace Go.Proofs.Ytbfhohpbldadbaa.P
open Go Go.RowKit Go.Proofs.YtbfhohpbldadbaaW.PrintWords Go.Proofs.YtbfhohpbldadbaaW.PrintLast Go.Proofs.YtbfhohpbldadbaaW.PrintMore
set_option linter.unusedVariables false
set_option linter.unusedSimpArgs false
theorem recv_lit2 {c : S61} {b : S83} {now : Int} {x : S61} {r : Int} (h : recvF c b now = (x, r)) (A0 : Option Addr) (c0 : Nat) (A3 : Option Addr) (c3 : Nat) (A2 : Option Addr) (c2 : Nat) (w : World) (hr : Kd.C kL w A0 c.f0.length c.f0) (hr3 : Kd.C k39 w A3 c.f3.length c.f3) (hl : c.f3.length ≤ 1000000) (hr2 : Kd.C k39 w A2 b.f2.length b.f2) :
    Calls Try.prog 46 #[.agg #[.slice A0 c.f0.length c0, .int .i64 c.f1, .int .i64 c.f2, .slice A3 c.f3.length c3, .bool c.f4, .int .i64 c.f5], .agg #[.int .i64 b.f0, .bool b.f1, .slice A2 b.f2.length c2], .int .i64 now] w (Off2 x r w) := by
  have hc := recv_calls A0 c0 A3 c3 c A2 c2 b now w hr hr3 hl hr2
  rw [h] at hc
  exact hc
theorem AtB83.keep {w w' : World} {a : Addr} {b : S83} {A2 : Option Addr} {k2 : Nat} (h : AtB83 w a b A2 k2) (hb : Below w.heap.size w w') : AtB83 w' a b A2 k2 := ⟨cell_keep h.c0 hb, cell_keep h.c1 hb, cell_keep h.c2 hb, h.le, Kd.C_below h.cc hb⟩
set_option maxHeartbeats 16000000 in
set_option maxRecDepth 100000 in
theorem delCh0 (w W : World) (g : Nat) (vo0 vi0 : Value) (x0 : S61) (vo1 vi1 : Value) (x1 : S61) (w0 w1 : Value) (l0 l1 : List S83) (p0 p1 : Value) (r0 r1 : List S39) (now : Int) (h : Chan w W g vo0 vi0 x0 vo1 vi1 x1 w0 w1 l0 l1 p0 p1 r0 r1 now) (hl : x0.f3.length ≤ 1000000) (i : Nat) (hi : i < l0.length) (hw : l0.length ≤ 1000000) (b : S83) (hbi : l0[i]'hi = b) (x : S61) (r : Int) (heq : recvF x0 b now = (x, r)) :
    Calls Try.prog 37 #[.pointer (some ⟨g, 0, none⟩), .int .i64 0, .int .i64 i] W fun e W' => (r ≠ 0 ∧ e = .returned (.bool false) ∧ Below W.heap.size W W') ∨ (r = 0 ∧ e = .returned (.bool true) ∧ ∃ vo vi, Chan w W' g vo vi x vo1 vi1 x1 w0 w1 l0 l1 p0 p1 r0 r1 now) := by
  obtain ⟨AO, cO, hvo⟩ := Kd.V_slice h.o0
  obtain ⟨AI, cI, hvi⟩ := Kd.V_slice h.i0
  obtain ⟨AW, cW, hvw⟩ := Kd.R_slice h.ww0
  subst hvo hvi hvw
  obtain ⟨ad, A2, k2, hA, hat⟩ := B83_cell (Kd.R_reads' h.ww0).2.2 i hi hi
  subst hA
  replace hat : AtB83 W (ad.add (i * 3)) b A2 k2 := by rw [← hbi]; exact hat
  have C := Lib.hid h; have HL := Lib.hid hl; have HQ := Lib.hid heq; have HI := Lib.hid hi; have AT0 := Lib.hid hat
  have i0 : (0 : Int) ≤ (i : Int) := by omega
  have i1 : (i : Int) < (l0.length : Int) := by omega
  clear h hl heq hbi hat hi hw
  go_enter Try.func37, Try.ntmps37
  go_wp2_with fail
  have HWS := Lib.hid (show Below W.heap.size W W.drew from below_drew (Below.refl _ _))
  have CD := Lib.hid (C.out.below (below_drew (Below.refl _ _)))
  have AT := Lib.hid (AT0.out.keep (below_drew (Below.refl _ _)))
  clear AT0
  refine start_ (n := 26) (S := fun w' => w'.cell? ⟨g, 0, none⟩ = some (.slice AO x0.f0.length cO) ∧ w'.cell? ⟨g, 1, none⟩ = some (.int .i64 x0.f1) ∧ w'.cell? ⟨g, 2, none⟩ = some (.int .i64 x0.f2) ∧ w'.cell? ⟨g, 3, none⟩ = some (.slice AI x0.f3.length cI) ∧ w'.cell? ⟨g, 4, none⟩ = some (.bool x0.f4) ∧ w'.cell? ⟨g, 5, none⟩ = some (.int .i64 x0.f5) ∧ w'.cell? ⟨g, 16, none⟩ = some (.int .i64 now) ∧ w'.cell? ⟨g, 12, none⟩ = some (.slice (some ad) l0.length cW) ∧ w'.cell? (ad.add (i * 3)) = some (.int .i64 b.f0) ∧ w'.cell? ⟨(ad.add (i * 3)).block, (ad.add (i * 3)).off + 1, none⟩ = some (.bool b.f1) ∧ w'.cell? ⟨(ad.add (i * 3)).block, (ad.add (i * 3)).off + 2, none⟩ = some (.slice A2 b.f2.length k2)) (ds := [24]) #[false, false, false, false, false, false, false, false, false, false, false, false, false, false, false, false, false, false, false, false, false, false, false, false, false, false] (by kernel_rfl) rfl rfl ⟨CD.out.blk.c0, CD.out.blk.c1, CD.out.blk.c2, CD.out.blk.c3, CD.out.blk.c4, CD.out.blk.c5, CD.out.blk.c16, CD.out.blk.c12, AT.out.c0, AT.out.c1, AT.out.c2⟩ (fun hHeld => ?_)
  generalize W.drew = wd at CD AT HWS hHeld ⊢
  refine pure_ (i := 0) (N := some 10) (v := ?_) (a' := ?_) #[true, false, false, false, false, false, false, false, false, false, false, false, false, false, false, false, false, false, false, false, false, false, false, false, false, false] rfl rfl (by kernel_rfl) (fun _ _ _ h => h) (Or.inl ⟨by rfl, ?_⟩) ?_ ?_
  rotate_left
  · intro w'
    go_simp
    with_reducible rfl
  rotate_left
  · simp only [Act.put, List.setIfInBounds_toArray, List.set_cons_zero, List.set_cons_succ, i64_w, i32_w]
    rfl
  refine pure_ (i := 1) (N := some 11) (v := ?_) (a' := ?_) #[true, true, false, false, false, false, false, false, false, false, false, false, false, false, false, false, false, false, false, false, false, false, false, false, false, false] rfl rfl (by kernel_rfl) (fun _ _ _ h => h) (Or.inl ⟨by rfl, ?_⟩) ?_ ?_
  rotate_left
  · intro w'
    go_simp
    with_reducible rfl
  rotate_left
  · simp only [Act.put, List.setIfInBounds_toArray, List.set_cons_zero, List.set_cons_succ, i64_w, i32_w]
    rfl
  refine pure_ (i := 2) (N := some 12) (v := ?_) (a' := ?_) #[true, true, true, false, false, false, false, false, false, false, false, false, false, false, false, false, false, false, false, false, false, false, false, false, false, false] rfl rfl (by kernel_rfl) (fun _ _ _ h => h) (Or.inl ⟨by rfl, ?_⟩) ?_ ?_
  rotate_left
  · intro w'
    go_simp
    with_reducible rfl
  rotate_left
  · simp only [Act.put, List.setIfInBounds_toArray, List.set_cons_zero, List.set_cons_succ, i64_w, i32_w]
    rfl
  refine pure_ (i := 3) (N := some 13) (v := ?_) (a' := ?_) #[true, true, true, true, false, false, false, false, false, false, false, false, false, false, false, false, false, false, false, false, false, false, false, false, false, false] rfl rfl (by kernel_rfl) (fun _ _ _ h => h) (Or.inl ⟨by rfl, ?_⟩) ?_ ?_
  rotate_left
  · intro w'
    go_simp
    with_reducible rfl
  rotate_left
  · simp only [Act.put, List.setIfInBounds_toArray, List.set_cons_zero, List.set_cons_succ, i64_w, i32_w]
    rfl
  refine pure_ (i := 4) (N := some 14) (v := ?_) (a' := ?_) #[true, true, true, true, true, false, false, false, false, false, false, false, false, false, false, false, false, false, false, false, false, false, false, false, false, false] rfl rfl (by kernel_rfl) (fun _ _ _ h => h) (Or.inl ⟨by rfl, ?_⟩) ?_ ?_
  rotate_left
  · intro w'
    go_simp
    with_reducible rfl
  rotate_left
  · simp only [Act.put, List.setIfInBounds_toArray, List.set_cons_zero, List.set_cons_succ, i64_w, i32_w]
    rfl
  refine pure_ (i := 6) (N := some 16) (v := ?_) (a' := ?_) #[true, true, true, true, true, false, true, false, false, false, false, false, false, false, false, false, false, false, false, false, false, false, false, false, false, false] rfl rfl (by kernel_rfl) (fun _ _ _ h => h) (Or.inl ⟨by rfl, ?_⟩) ?_ ?_
  rotate_left
  · intro w'
    go_simp
    with_reducible rfl
  rotate_left
  · simp only [Act.put, List.setIfInBounds_toArray, List.set_cons_zero, List.set_cons_succ, i64_w, i32_w]
    rfl
  refine pure_ (i := 7) (N := some 17) (v := ?_) (a' := ?_) #[true, true, true, true, true, false, true, true, false, false, false, false, false, false, false, false, false, false, false, false, false, false, false, false, false, false] rfl rfl (by kernel_rfl) (fun _ _ _ h => h) (Or.inl ⟨by rfl, ?_⟩) ?_ ?_
  rotate_left
  · intro w'
    go_simp
    with_reducible rfl
  rotate_left
  · simp only [Act.put, List.setIfInBounds_toArray, List.set_cons_zero, List.set_cons_succ, i64_w, i32_w]
    rfl
  refine pure_ (i := 8) (N := some 18) (v := ?_) (a' := ?_) #[true, true, true, true, true, false, true, true, true, false, false, false, false, false, false, false, false, false, false, false, false, false, false, false, false, false] rfl rfl (by kernel_rfl) (fun _ _ _ h => h) (Or.inl ⟨by rfl, ?_⟩) ?_ ?_
  rotate_left
  · intro w'
    go_simp
    with_reducible rfl
  rotate_left
  · simp only [Act.put, List.setIfInBounds_toArray, List.set_cons_zero, List.set_cons_succ, i64_w, i32_w]
    rfl
  refine pure_ (i := 9) (N := some 19) (v := ?_) (a' := ?_) #[true, true, true, true, true, false, true, true, true, true, false, false, false, false, false, false, false, false, false, false, false, false, false, false, false, false] rfl rfl (by kernel_rfl) (fun _ _ _ h => h) (Or.inl ⟨by rfl, ?_⟩) ?_ ?_
  rotate_left
  · intro w'
    go_simp
    with_reducible rfl
  rotate_left
  · simp only [Act.put, List.setIfInBounds_toArray, List.set_cons_zero, List.set_cons_succ, i64_w, i32_w]
    rfl
  refine pure_ (i := 10) (N := some 20) (v := ?_) (a' := ?_) #[true, true, true, true, true, false, true, true, true, true, true, false, false, false, false, false, false, false, false, false, false, false, false, false, false, false] rfl rfl (by kernel_rfl) (fun _ _ _ h => h) (Or.inl ⟨by rfl, ?_⟩) ?_ ?_
  rotate_left
  · intro w'
    go_simp
    with_reducible rfl
  rotate_left
  · simp only [Act.put, List.setIfInBounds_toArray, List.set_cons_zero, List.set_cons_succ, i64_w, i32_w]
    rfl
  refine pure_ (i := 12) (N := some 22) (v := ?_) (a' := ?_) #[true, true, true, true, true, false, true, true, true, true, true, false, true, false, false, false, false, false, false, false, false, false, false, false, false, false] rfl rfl (by kernel_rfl) (fun _ _ _ h => h) (Or.inl ⟨by rfl, ?_⟩) ?_ ?_
  rotate_left
  · intro w'
    go_simp
    with_reducible rfl
  rotate_left
  · simp only [Act.put, List.setIfInBounds_toArray, List.set_cons_zero, List.set_cons_succ, i64_w, i32_w]
    rfl
  refine pure_ (i := 15) (N := some 25) (v := ?_) (a' := ?_) #[true, true, true, true, true, false, true, true, true, true, true, false, true, false, false, true, false, false, false, false, false, false, false, false, false, false] rfl rfl (by kernel_rfl) (fun _ _ _ h => h) (Or.inl ⟨by rfl, ?_⟩) ?_ ?_
  rotate_left
  · intro w'
    go_simp
    with_reducible rfl
  rotate_left
  · simp only [Act.put, List.setIfInBounds_toArray, List.set_cons_zero, List.set_cons_succ, i64_w, i32_w]
    rfl
  refine pure_ (i := 16) (N := some 26) (v := ?_) (a' := ?_) #[true, true, true, true, true, false, true, true, true, true, true, false, true, false, false, true, true, false, false, false, false, false, false, false, false, false] rfl rfl (by kernel_rfl) (fun _ _ _ h => h) (Or.inl ⟨by rfl, ?_⟩) ?_ ?_
  rotate_left
  · intro w'
    go_simp
    with_reducible rfl
  rotate_left
  · simp only [Act.put, List.setIfInBounds_toArray, List.set_cons_zero, List.set_cons_succ, i64_w, i32_w]
    rfl
  refine pure_ (i := 17) (N := some 27) (v := ?_) (a' := ?_) #[true, true, true, true, true, false, true, true, true, true, true, false, true, false, false, true, true, true, false, false, false, false, false, false, false, false] rfl rfl (by kernel_rfl) (fun _ _ _ h => h) (Or.inl ⟨by rfl, ?_⟩) ?_ ?_
  rotate_left
  · intro w'
    go_simp
    with_reducible rfl
  rotate_left
  · simp only [Act.put, List.setIfInBounds_toArray, List.set_cons_zero, List.set_cons_succ, i64_w, i32_w]
    rfl
  refine take_ (i := 5) (N := some 15) (v := ?_) (a' := ?_) #[true, true, true, true, true, true, true, true, true, true, true, false, true, false, false, true, true, true, false, false, false, false, false, false, false, false] rfl rfl (by kernel_rfl) (fun _ _ _ h => h) (Or.inl ⟨by rfl, ?_⟩) hHeld ?_ ?_
  rotate_left
  · rintro w' ⟨s0, s1, s2, s3, s4, s5, s6, s7, s8, s9, s10⟩
    go_simp
    with_reducible rfl
  rotate_left
  · simp only [Act.put, List.setIfInBounds_toArray, List.set_cons_zero, List.set_cons_succ, i64_w, i32_w]
    rfl
  refine take_ (i := 11) (N := some 21) (v := ?_) (a' := ?_) #[true, true, true, true, true, true, true, true, true, true, true, true, true, false, false, true, true, true, false, false, false, false, false, false, false, false] rfl rfl (by kernel_rfl) (fun _ _ _ h => h) (Or.inl ⟨by rfl, ?_⟩) hHeld ?_ ?_
  rotate_left
  · rintro w' ⟨s0, s1, s2, s3, s4, s5, s6, s7, s8, s9, s10⟩
    go_simp
    with_reducible rfl
  rotate_left
  · simp only [Act.put, List.setIfInBounds_toArray, List.set_cons_zero, List.set_cons_succ, i64_w, i32_w]
    rfl
  refine pure_ (i := 13) (N := some 23) (v := ?_) (a' := ?_) #[true, true, true, true, true, true, true, true, true, true, true, true, true, true, false, true, true, true, false, false, false, false, false, false, false, false] rfl rfl (by kernel_rfl) (fun _ _ _ h => h) (Or.inl ⟨by rfl, ?_⟩) ?_ ?_
  rotate_left
  · intro w'
    go_simp
    with_reducible rfl
  rotate_left
  · simp only [Act.put, List.setIfInBounds_toArray, List.set_cons_zero, List.set_cons_succ, i64_w, i32_w]
    rfl
  refine take_ (i := 14) (N := some 24) (v := ?_) (a' := ?_) #[true, true, true, true, true, true, true, true, true, true, true, true, true, true, true, true, true, true, false, false, false, false, false, false, false, false] rfl rfl (by kernel_rfl) (fun _ _ _ h => h) (Or.inl ⟨by rfl, ?_⟩) hHeld ?_ ?_
  rotate_left
  · rintro w' ⟨s0, s1, s2, s3, s4, s5, s6, s7, s8, s9, s10⟩
    go_simp
    with_reducible rfl
  rotate_left
  · simp only [Act.put, List.setIfInBounds_toArray, List.set_cons_zero, List.set_cons_succ, i64_w, i32_w]
    rfl
  refine take_ (i := 18) (N := some 28) (v := ?_) (a' := ?_) #[true, true, true, true, true, true, true, true, true, true, true, true, true, true, true, true, true, true, true, false, false, false, false, false, false, false] rfl rfl (by kernel_rfl) (fun _ _ _ h => h) (Or.inl ⟨by rfl, ?_⟩) hHeld ?_ ?_
  rotate_left
  · rintro w' ⟨s0, s1, s2, s3, s4, s5, s6, s7, s8, s9, s10⟩
    go_simp
    with_reducible rfl
  rotate_left
  · simp only [Act.put, List.setIfInBounds_toArray, List.set_cons_zero, List.set_cons_succ, i64_w, i32_w]
    rfl
  refine join_ (σ := Nat × Option Addr × Nat × Option Addr × Nat) 2 #[true, true, true, true, true, true, true, true, true, true, true, true, true, true, true, true, true, true, true, true, true, true, true, true, false, false] (fun s => [(29, .tuple #[.agg #[.slice s.2.1 x.f0.length s.2.2.1, .int .i64 x.f1, .int .i64 x.f2, .slice s.2.2.2.1 x.f3.length s.2.2.2.2, .bool x.f4, .int .i64 x.f5], .int .i64 r]), (7, .pointer (some ⟨s.1, 0, none⟩)), (9, .tuple #[.agg #[.slice s.2.1 x.f0.length s.2.2.1, .int .i64 x.f1, .int .i64 x.f2, .slice s.2.2.2.1 x.f3.length s.2.2.2.2, .bool x.f4, .int .i64 x.f5], .int .i64 r]), (30, .agg #[.slice s.2.1 x.f0.length s.2.2.1, .int .i64 x.f1, .int .i64 x.f2, .slice s.2.2.2.1 x.f3.length s.2.2.2.2, .bool x.f4, .int .i64 x.f5]), (31, .int .i64 r)]) (fun s w' => Below wd.heap.size wd w' ∧ wd.heap.size ≤ s.1 ∧ EBlk w' s.1 61 (.slice none 0 0) 0 0 (.slice none 0 0) false 0 ∧ Kd.V kL 28 w' 0 (fun k => wd.heap.size ≤ k ∧ k ≠ s.1) (.slice s.2.1 x.f0.length s.2.2.1) x.f0 ∧ Kd.V k39 39 w' 0 (fun k => wd.heap.size ≤ k ∧ k ≠ s.1) (.slice s.2.2.2.1 x.f3.length s.2.2.2.2) x.f3) ?_ ?_
  rotate_left
  · intro hCont
    refine two_ (i := 19) (j := 23) (Ni := some 29) (Nj := some 7) #[true, true, true, true, true, true, true, true, true, true, true, true, true, true, true, true, true, true, true, true, false, false, false, false, false, false] #[true, true, true, true, true, true, true, true, true, true, true, true, true, true, true, true, true, true, true, false, false, false, false, true, false, false] rfl rfl rfl rfl (by kernel_rfl) (by decide) (by decide) (fun K hK => ?_) (fun K hK => ?_)
    · skip
      refine goes_ Try.func46 (by kernel_rfl) rfl #[.agg #[.slice AO x0.f0.length cO, .int .i64 x0.f1, .int .i64 x0.f2, .slice AI x0.f3.length cI, .bool x0.f4, .int .i64 x0.f5], .agg #[.int .i64 b.f0, .bool b.f1, .slice A2 b.f2.length k2], .int .i64 now] (by rfl) rfl rfl (by simp only [List.map_toArray, List.map_cons, List.map_nil]; rfl) ?_
      with_reducible refine (recv_lit2 HQ.out AO cO AI cI A2 k2 wd (Kd.V_reads' (CD.out.below (Below.refl _ _)).o0).2.2 (Kd.V_reads' (CD.out.below (Below.refl _ _)).i0).2.2 HL.out (AT.out.keep (Below.refl _ _)).cc).mono ?_
      rintro e wx1 ⟨v, rfl, hE, hb⟩
      refine ⟨_, rfl, ?_⟩
      obtain ⟨A5, k5, A6, k6, rfl, hO, hI⟩ := six_read hE
      clear hE
      have hB1 : Below wd.heap.size wd wx1 := hb
      clear hb
      refine hK.out _ _ ⟨(CD.out.below hB1).blk.c0, (CD.out.below hB1).blk.c1, (CD.out.below hB1).blk.c2, (CD.out.below hB1).blk.c3, (CD.out.below hB1).blk.c4, (CD.out.below hB1).blk.c5, (CD.out.below hB1).blk.c16, (CD.out.below hB1).blk.c12, (AT.out.keep hB1).c0, (AT.out.keep hB1).c1, (AT.out.keep hB1).c2⟩ (fun hHeld => ?_)
      clear hK K
      refine norm_ (a' := ?_) ?_ ?_
      rotate_left
      · show Act.put _ (some 29) _ = _
        simp only [Act.put, List.setIfInBounds_toArray, List.set_cons_zero, List.set_cons_succ, i64_w, i32_w]
        rfl
      refine pure_ (i := 20) (N := some 9) (v := ?_) (a' := ?_) #[true, true, true, true, true, true, true, true, true, true, true, true, true, true, true, true, true, true, true, true, true, false, false, false, false, false] rfl rfl (by kernel_rfl) (fun _ _ _ h => h) (Or.inl ⟨by rfl, ?_⟩) ?_ ?_
      rotate_left
      · intro w'
        go_simp
        with_reducible rfl
      rotate_left
      · simp only [Act.put, List.setIfInBounds_toArray, List.set_cons_zero, List.set_cons_succ, i64_w, i32_w]
        rfl
      refine pure_ (i := 21) (N := some 30) (v := ?_) (a' := ?_) #[true, true, true, true, true, true, true, true, true, true, true, true, true, true, true, true, true, true, true, true, true, true, false, false, false, false] rfl rfl (by kernel_rfl) (fun _ _ _ h => h) (Or.inl ⟨by rfl, ?_⟩) ?_ ?_
      rotate_left
      · intro w'
        go_simp
        with_reducible rfl
      rotate_left
      · simp only [Act.put, List.setIfInBounds_toArray, List.set_cons_zero, List.set_cons_succ, i64_w, i32_w]
        rfl
      refine pure_ (i := 22) (N := some 31) (v := ?_) (a' := ?_) #[true, true, true, true, true, true, true, true, true, true, true, true, true, true, true, true, true, true, true, true, true, true, true, false, false, false] rfl rfl (by kernel_rfl) (fun _ _ _ h => h) (Or.inl ⟨by rfl, ?_⟩) ?_ ?_
      rotate_left
      · intro w'
        go_simp
        with_reducible rfl
      rotate_left
      · simp only [Act.put, List.setIfInBounds_toArray, List.set_cons_zero, List.set_cons_succ, i64_w, i32_w]
        rfl
      refine one_ (i := 23) (N := some 7) #[true, true, true, true, true, true, true, true, true, true, true, true, true, true, true, true, true, true, true, true, true, true, true, true, false, false] rfl rfl (by kernel_rfl) (by decide) (fun K hK => ?_)
      refine value_ (w1 := ?_) (v := ?_) (by rfl) rfl ?_ ?_
      rotate_left 2
      · go_simp
        constructor
        all_goals rfl
      have hB2 : Below wd.heap.size wd (wx1.alloc (.cells #[.slice none 0 0, .int .i64 0, .int .i64 0, .slice none 0 0, .bool false, .int .i64 0] 61)) := al hB1 _
      have hZ := EBlk.new wx1 61 (.slice none 0 0) (.slice none 0 0) 0 0 0 false
      have htle : wd.heap.size ≤ wx1.heap.size := hB1.size
      replace hO := Kd.V_mono (Kd.V_alloc (Kd.V_bound hO) (.cells #[.slice none 0 0, .int .i64 0, .int .i64 0, .slice none 0 0, .bool false, .int .i64 0] 61)) (fun k hk => show wd.heap.size ≤ k ∧ k ≠ wx1.heap.size from ⟨hk.1, by have := hk.2; omega⟩)
      replace hI := Kd.V_mono (Kd.V_alloc (Kd.V_bound hI) (.cells #[.slice none 0 0, .int .i64 0, .int .i64 0, .slice none 0 0, .bool false, .int .i64 0] 61)) (fun k hk => show wd.heap.size ≤ k ∧ k ≠ wx1.heap.size from ⟨hk.1, by have := hk.2; omega⟩)
      generalize wx1.alloc (.cells #[.slice none 0 0, .int .i64 0, .int .i64 0, .slice none 0 0, .bool false, .int .i64 0] 61) = wx2 at hB2 hZ hO hI ⊢
      refine hK.out _ _ ⟨(CD.out.below hB2).blk.c0, (CD.out.below hB2).blk.c1, (CD.out.below hB2).blk.c2, (CD.out.below hB2).blk.c3, (CD.out.below hB2).blk.c4, (CD.out.below hB2).blk.c5, (CD.out.below hB2).blk.c16, (CD.out.below hB2).blk.c12, (AT.out.keep hB2).c0, (AT.out.keep hB2).c1, (AT.out.keep hB2).c2⟩ (fun hHeld => ?_)
      clear hK K
      refine norm_ (a' := ?_) ?_ ?_
      rotate_left
      · show Act.put _ (some 7) _ = _
        simp only [Act.put, List.setIfInBounds_toArray, List.set_cons_zero, List.set_cons_succ, i64_w, i32_w]
        rfl
      exact norm_ (by simp only [putAll, Act.put, List.setIfInBounds_toArray, List.set_cons_zero, List.set_cons_succ] <;> rfl) (hCont (wx1.heap.size, A5, k5, A6, k6) _ ⟨hB2, htle, hZ, hO, hI⟩)
    · skip
      refine value_ (w1 := ?_) (v := ?_) (by rfl) rfl ?_ ?_
      rotate_left 2
      · go_simp
        constructor
        all_goals rfl
      have hB1 : Below wd.heap.size wd (wd.alloc (.cells #[.slice none 0 0, .int .i64 0, .int .i64 0, .slice none 0 0, .bool false, .int .i64 0] 61)) := below_one _ _
      have hZ := EBlk.new wd 61 (.slice none 0 0) (.slice none 0 0) 0 0 0 false
      have htle : wd.heap.size ≤ wd.heap.size := Nat.le_refl _
      generalize wd.alloc (.cells #[.slice none 0 0, .int .i64 0, .int .i64 0, .slice none 0 0, .bool false, .int .i64 0] 61) = wx1 at hB1 hZ ⊢
      refine hK.out _ _ ⟨(CD.out.below hB1).blk.c0, (CD.out.below hB1).blk.c1, (CD.out.below hB1).blk.c2, (CD.out.below hB1).blk.c3, (CD.out.below hB1).blk.c4, (CD.out.below hB1).blk.c5, (CD.out.below hB1).blk.c16, (CD.out.below hB1).blk.c12, (AT.out.keep hB1).c0, (AT.out.keep hB1).c1, (AT.out.keep hB1).c2⟩ (fun hHeld => ?_)
      clear hK K
      refine norm_ (a' := ?_) ?_ ?_
      rotate_left
      · show Act.put _ (some 7) _ = _
        simp only [Act.put, List.setIfInBounds_toArray, List.set_cons_zero, List.set_cons_succ, i64_w, i32_w]
        rfl
      refine one_ (i := 19) (N := some 29) #[true, true, true, true, true, true, true, true, true, true, true, true, true, true, true, true, true, true, true, true, false, false, false, true, false, false] rfl rfl (by kernel_rfl) (by decide) (fun K hK => ?_)
      refine goes_ Try.func46 (by kernel_rfl) rfl #[.agg #[.slice AO x0.f0.length cO, .int .i64 x0.f1, .int .i64 x0.f2, .slice AI x0.f3.length cI, .bool x0.f4, .int .i64 x0.f5], .agg #[.int .i64 b.f0, .bool b.f1, .slice A2 b.f2.length k2], .int .i64 now] (by rfl) rfl rfl (by simp only [List.map_toArray, List.map_cons, List.map_nil]; rfl) ?_
      with_reducible refine (recv_lit2 HQ.out AO cO AI cI A2 k2 wx1 (Kd.V_reads' (CD.out.below hB1).o0).2.2 (Kd.V_reads' (CD.out.below hB1).i0).2.2 HL.out (AT.out.keep hB1).cc).mono ?_
      rintro e wx2 ⟨v, rfl, hE, hb⟩
      refine ⟨_, rfl, ?_⟩
      obtain ⟨A5, k5, A6, k6, rfl, hO, hI⟩ := six_read hE
      clear hE
      replace hO := Kd.V_mono hO (ok' := fun k => wd.heap.size ≤ k ∧ k ≠ wd.heap.size) (fun k hk => show wd.heap.size ≤ k ∧ k ≠ wd.heap.size from ⟨by have := hB1.size; omega, by have := heap_lt hZ; omega⟩)
      replace hI := Kd.V_mono hI (ok' := fun k => wd.heap.size ≤ k ∧ k ≠ wd.heap.size) (fun k hk => show wd.heap.size ≤ k ∧ k ≠ wd.heap.size from ⟨by have := hB1.size; omega, by have := heap_lt hZ; omega⟩)
      replace hZ := hZ.below hb
      have hB2 : Below wd.heap.size wd wx2 := bb hB1 hb
      clear hb
      refine hK.out _ _ ⟨(CD.out.below hB2).blk.c0, (CD.out.below hB2).blk.c1, (CD.out.below hB2).blk.c2, (CD.out.below hB2).blk.c3, (CD.out.below hB2).blk.c4, (CD.out.below hB2).blk.c5, (CD.out.below hB2).blk.c16, (CD.out.below hB2).blk.c12, (AT.out.keep hB2).c0, (AT.out.keep hB2).c1, (AT.out.keep hB2).c2⟩ (fun hHeld => ?_)
      clear hK K
      refine norm_ (a' := ?_) ?_ ?_
      rotate_left
      · show Act.put _ (some 29) _ = _
        simp only [Act.put, List.setIfInBounds_toArray, List.set_cons_zero, List.set_cons_succ, i64_w, i32_w]
        rfl
      refine pure_ (i := 20) (N := some 9) (v := ?_) (a' := ?_) #[true, true, true, true, true, true, true, true, true, true, true, true, true, true, true, true, true, true, true, true, true, false, false, true, false, false] rfl rfl (by kernel_rfl) (fun _ _ _ h => h) (Or.inl ⟨by rfl, ?_⟩) ?_ ?_
      rotate_left
      · intro w'
        go_simp
        with_reducible rfl
      rotate_left
      · simp only [Act.put, List.setIfInBounds_toArray, List.set_cons_zero, List.set_cons_succ, i64_w, i32_w]
        rfl
      refine pure_ (i := 21) (N := some 30) (v := ?_) (a' := ?_) #[true, true, true, true, true, true, true, true, true, true, true, true, true, true, true, true, true, true, true, true, true, true, false, true, false, false] rfl rfl (by kernel_rfl) (fun _ _ _ h => h) (Or.inl ⟨by rfl, ?_⟩) ?_ ?_
      rotate_left
      · intro w'
        go_simp
        with_reducible rfl
      rotate_left
      · simp only [Act.put, List.setIfInBounds_toArray, List.set_cons_zero, List.set_cons_succ, i64_w, i32_w]
        rfl
      refine pure_ (i := 22) (N := some 31) (v := ?_) (a' := ?_) #[true, true, true, true, true, true, true, true, true, true, true, true, true, true, true, true, true, true, true, true, true, true, true, true, false, false] rfl rfl (by kernel_rfl) (fun _ _ _ h => h) (Or.inl ⟨by rfl, ?_⟩) ?_ ?_
      rotate_left
      · intro w'
        go_simp
        with_reducible rfl
      rotate_left
      · simp only [Act.put, List.setIfInBounds_toArray, List.set_cons_zero, List.set_cons_succ, i64_w, i32_w]
        rfl
      exact norm_ (by simp only [putAll, Act.put, List.setIfInBounds_toArray, List.set_cons_zero, List.set_cons_succ] <;> rfl) (hCont (wd.heap.size, A5, k5, A6, k6) _ ⟨hB2, htle, hZ, hO, hI⟩)
  rintro ⟨t, A5, k5, A6, k6⟩ w3 ⟨hB, htle, hZ, hO, hI⟩
  have hHeld : w3.cell? ⟨g, 0, none⟩ = some (.slice AO x0.f0.length cO) ∧ w3.cell? ⟨g, 1, none⟩ = some (.int .i64 x0.f1) ∧ w3.cell? ⟨g, 2, none⟩ = some (.int .i64 x0.f2) ∧ w3.cell? ⟨g, 3, none⟩ = some (.slice AI x0.f3.length cI) ∧ w3.cell? ⟨g, 4, none⟩ = some (.bool x0.f4) ∧ w3.cell? ⟨g, 5, none⟩ = some (.int .i64 x0.f5) ∧ w3.cell? ⟨g, 16, none⟩ = some (.int .i64 now) ∧ w3.cell? ⟨g, 12, none⟩ = some (.slice (some ad) l0.length cW) ∧ w3.cell? (ad.add (i * 3)) = some (.int .i64 b.f0) ∧ w3.cell? ⟨(ad.add (i * 3)).block, (ad.add (i * 3)).off + 1, none⟩ = some (.bool b.f1) ∧ w3.cell? ⟨(ad.add (i * 3)).block, (ad.add (i * 3)).off + 2, none⟩ = some (.slice A2 b.f2.length k2) := ⟨(CD.out.below hB).blk.c0, (CD.out.below hB).blk.c1, (CD.out.below hB).blk.c2, (CD.out.below hB).blk.c3, (CD.out.below hB).blk.c4, (CD.out.below hB).blk.c5, (CD.out.below hB).blk.c16, (CD.out.below hB).blk.c12, (AT.out.keep hB).c0, (AT.out.keep hB).c1, (AT.out.keep hB).c2⟩
  refine norm_ (a' := ?_) ?_ ?_
  rotate_left
  · simp only [putAll, Act.put, List.setIfInBounds_toArray, List.set_cons_zero, List.set_cons_succ]
    rfl
  refine last_ (i := 24) (N := none) #[true, true, true, true, true, true, true, true, true, true, true, true, true, true, true, true, true, true, true, true, true, true, true, true, true, false] rfl rfl (by kernel_rfl) (by decide) (fun K hK => ?_)
  have z0 := hZ.c0; have z1 := hZ.c1; have z2 := hZ.c2; have z3 := hZ.c3; have z4 := hZ.c4; have z5 := hZ.c5; have y := blk_frozen hZ
  refine skip_ (w1 := ?_) (by rfl) rfl ?_ ?_
  rotate_left
  · go_simp
    rfl
  obtain ⟨w4, hw9, Z9, F9⟩ := six hZ (.slice A5 x.f0.length k5) x.f1 x.f2 (.slice A6 x.f3.length k6) x.f4 x.f5
  rw [← hw9]
  clear hw9 z0 z1 z2 z3 z4 z5 y
  refine hK.out _ _ ?_
  clear hK K
  refine pure_ (i := 25) (N := some 8) (v := ?_) (a' := ?_) #[true, true, true, true, true, true, true, true, true, true, true, true, true, true, true, true, true, true, true, true, true, true, true, true, true, true] rfl rfl (by kernel_rfl) (fun _ _ _ h => h) (Or.inl ⟨by rfl, ?_⟩) ?_ ?_
  rotate_left
  · intro w'
    go_simp
    with_reducible rfl
  rotate_left
  · simp only [Act.put, List.setIfInBounds_toArray, List.set_cons_zero, List.set_cons_succ, i64_w, i32_w]
    rfl
  refine done_ (by kernel_rfl) ?_

  have hB4 : Below wd.heap.size wd w4 := Fr.below F9 hB (Nat.le_refl _) (fun k hk => by omega)
  have C4 := Lib.hid (CD.out.below hB4)
  have O4 := Lib.hid (Kd.V_mono (Kd.V_step hO (fun k hk hlt => F9.same k hlt hk.2)) (fun k hk => CD.out.fresh hk.1))
  have I4 := Lib.hid (Kd.V_mono (Kd.V_step hI (fun k hk hlt => F9.same k hlt hk.2)) (fun k hk => CD.out.fresh hk.1))
  have Z4 := Lib.hid Z9
  have B4 := Lib.hid (bb HWS.out hB4)
  clear hO hI F9 hB hB4 hZ Z9 htle hHeld HQ
  by_cases hr : r = 0
  · subst hr
    go_wp2_with fail
    replace C4 := Lib.hid (C4.out.below (below_drew (Below.refl _ _))); replace O4 := Lib.hid (Kd.V_drew O4.out); replace I4 := Lib.hid (Kd.V_drew I4.out); replace Z4 := Lib.hid (Z4.out.below (below_drew (Below.refl _ _)))
    refine start_ (n := 7) (S := fun w' => w'.cell? ⟨t, 0, none⟩ = some (.slice A5 x.f0.length k5) ∧ w'.cell? ⟨t, 1, none⟩ = some (.int .i64 x.f1) ∧ w'.cell? ⟨t, 2, none⟩ = some (.int .i64 x.f2) ∧ w'.cell? ⟨t, 3, none⟩ = some (.slice A6 x.f3.length k6) ∧ w'.cell? ⟨t, 4, none⟩ = some (.bool x.f4) ∧ w'.cell? ⟨t, 5, none⟩ = some (.int .i64 x.f5)) (ds := [6]) #[false, false, false, false, false, false, false] (by kernel_rfl) rfl rfl ⟨Z4.out.c0, Z4.out.c1, Z4.out.c2, Z4.out.c3, Z4.out.c4, Z4.out.c5⟩ (fun hHeld => ?_)
    generalize w4.drew = w5 at C4 O4 I4 Z4 hHeld ⊢
    refine pure_ (i := 0) (N := some 34) (v := ?_) (a' := ?_) #[true, false, false, false, false, false, false] rfl rfl (by kernel_rfl) (fun _ _ _ h => h) (Or.inl ⟨by rfl, ?_⟩) ?_ ?_
    rotate_left
    · intro w'
      go_simp
      with_reducible rfl
    rotate_left
    · simp only [Act.put, List.setIfInBounds_toArray, List.set_cons_zero, List.set_cons_succ, i64_w, i32_w]
      rfl
    refine pure_ (i := 1) (N := some 35) (v := ?_) (a' := ?_) #[true, true, false, false, false, false, false] rfl rfl (by kernel_rfl) (fun _ _ _ h => h) (Or.inl ⟨by rfl, ?_⟩) ?_ ?_
    rotate_left
    · intro w'
      go_simp
      with_reducible rfl
    rotate_left
    · simp only [Act.put, List.setIfInBounds_toArray, List.set_cons_zero, List.set_cons_succ, i64_w, i32_w]
      rfl
    refine pure_ (i := 3) (N := some 37) (v := ?_) (a' := ?_) #[true, true, false, true, false, false, false] rfl rfl (by kernel_rfl) (fun _ _ _ h => h) (Or.inl ⟨by rfl, ?_⟩) ?_ ?_
    rotate_left
    · intro w'
      go_simp
      with_reducible rfl
    rotate_left
    · simp only [Act.put, List.setIfInBounds_toArray, List.set_cons_zero, List.set_cons_succ, i64_w, i32_w]
      rfl
    refine pure_ (i := 4) (N := some 38) (v := ?_) (a' := ?_) #[true, true, false, true, true, false, false] rfl rfl (by kernel_rfl) (fun _ _ _ h => h) (Or.inl ⟨by rfl, ?_⟩) ?_ ?_
    rotate_left
    · intro w'
      go_simp
      with_reducible rfl
    rotate_left
    · simp only [Act.put, List.setIfInBounds_toArray, List.set_cons_zero, List.set_cons_succ, i64_w, i32_w]
      rfl
    refine take_ (i := 2) (N := some 36) (v := ?_) (a' := ?_) #[true, true, true, true, true, false, false] rfl rfl (by kernel_rfl) (fun _ _ _ h => h) (Or.inl ⟨by rfl, ?_⟩) hHeld ?_ ?_
    rotate_left
    · rintro w' ⟨s0, s1, s2, s3, s4, s5⟩
      go_simp
      with_reducible rfl
    rotate_left
    · simp only [Act.put, List.setIfInBounds_toArray, List.set_cons_zero, List.set_cons_succ, i64_w, i32_w]
      rfl
    refine pure_ (i := 5) (N := some 39) (v := ?_) (a' := ?_) #[true, true, true, true, true, true, false] rfl rfl (by kernel_rfl) (fun _ _ _ h => h) (Or.inl ⟨by rfl, ?_⟩) ?_ ?_
    rotate_left
    · intro w'
      go_simp
      with_reducible rfl
    rotate_left
    · simp only [Act.put, List.setIfInBounds_toArray, List.set_cons_zero, List.set_cons_succ, i64_w, i32_w]
      rfl
    refine last_ (i := 6) (N := none) #[true, true, true, true, true, true, true] rfl rfl (by kernel_rfl) (by decide) (fun K hK => ?_)
    have z0 := C4.out.blk.c0; have z1 := C4.out.blk.c1; have z2 := C4.out.blk.c2; have z3 := C4.out.blk.c3; have z4 := C4.out.blk.c4; have z5 := C4.out.blk.c5; have y := blk_frozen C4.out.blk
    refine skip_ (w1 := ?_) (by rfl) rfl ?_ ?_
    rotate_left
    · go_simp
      rfl
    obtain ⟨w6, hw9, hB9, F9⟩ := C4.out.blk.end0 (.slice A5 x.f0.length k5) (.slice A6 x.f3.length k6) x
    rw [← hw9]
    clear hw9 z0 z1 z2 z3 z4 z5 y
    refine hK.out _ _ ?_
    clear hK K
    refine done_ (by kernel_rfl) ?_

    have C6 := Lib.hid (C4.out.set0 F9 hB9 O4.out I4.out)
    clear C4 O4 I4 Z4 F9 hB9 hHeld
    go_wp2_with fail
    go_ret
    exact ⟨rfl, .slice A5 x.f0.length k5, .slice A6 x.f3.length k6, C6.out⟩
  · have hz : (r != 0) = true := by simpa using hr
    have HRN := Lib.hid hr
    clear hr
    go_wp2_with fail
    go_ret
    exact Or.inl ⟨HRN.out, rfl, B4.out⟩
set_option maxHeartbeats 16000000 in
set_option maxRecDepth 100000 in
theorem delCh1 (w W : World) (g : Nat) (vo0 vi0 : Value) (x0 : S61) (vo1 vi1 : Value) (x1 : S61) (w0 w1 : Value) (l0 l1 : List S83) (p0 p1 : Value) (r0 r1 : List S39) (now : Int) (h : Chan w W g vo0 vi0 x0 vo1 vi1 x1 w0 w1 l0 l1 p0 p1 r0 r1 now) (hl : x1.f3.length ≤ 1000000) (i : Nat) (hi : i < l1.length) (hw : l1.length ≤ 1000000) (b : S83) (hbi : l1[i]'hi = b) (x : S61) (r : Int) (heq : recvF x1 b now = (x, r)) :
    Calls Try.prog 37 #[.pointer (some ⟨g, 0, none⟩), .int .i64 1, .int .i64 i] W fun e W' => (r ≠ 0 ∧ e = .returned (.bool false) ∧ Below W.heap.size W W') ∨ (r = 0 ∧ e = .returned (.bool true) ∧ ∃ vo vi, Chan w W' g vo0 vi0 x0 vo vi x w0 w1 l0 l1 p0 p1 r0 r1 now) := by
  obtain ⟨AO, cO, hvo⟩ := Kd.V_slice h.o1
  obtain ⟨AI, cI, hvi⟩ := Kd.V_slice h.i1
  obtain ⟨AW, cW, hvw⟩ := Kd.R_slice h.ww1
  subst hvo hvi hvw
  obtain ⟨ad, A2, k2, hA, hat⟩ := B83_cell (Kd.R_reads' h.ww1).2.2 i hi hi
  subst hA
  replace hat : AtB83 W (ad.add (i * 3)) b A2 k2 := by rw [← hbi]; exact hat
  have C := Lib.hid h; have HL := Lib.hid hl; have HQ := Lib.hid heq; have HI := Lib.hid hi; have AT0 := Lib.hid hat
  have i0 : (0 : Int) ≤ (i : Int) := by omega
  have i1 : (i : Int) < (l1.length : Int) := by omega
  clear h hl heq hbi hat hi hw
  go_enter Try.func37, Try.ntmps37
  go_wp2_with fail
  have HWS := Lib.hid (show Below W.heap.size W W.drew from below_drew (Below.refl _ _))
  have CD := Lib.hid (C.out.below (below_drew (Below.refl _ _)))
  have AT := Lib.hid (AT0.out.keep (below_drew (Below.refl _ _)))
  clear AT0
  refine start_ (n := 26) (S := fun w' => w'.cell? ⟨g, 6, none⟩ = some (.slice AO x1.f0.length cO) ∧ w'.cell? ⟨g, 7, none⟩ = some (.int .i64 x1.f1) ∧ w'.cell? ⟨g, 8, none⟩ = some (.int .i64 x1.f2) ∧ w'.cell? ⟨g, 9, none⟩ = some (.slice AI x1.f3.length cI) ∧ w'.cell? ⟨g, 10, none⟩ = some (.bool x1.f4) ∧ w'.cell? ⟨g, 11, none⟩ = some (.int .i64 x1.f5) ∧ w'.cell? ⟨g, 16, none⟩ = some (.int .i64 now) ∧ w'.cell? ⟨g, 13, none⟩ = some (.slice (some ad) l1.length cW) ∧ w'.cell? (ad.add (i * 3)) = some (.int .i64 b.f0) ∧ w'.cell? ⟨(ad.add (i * 3)).block, (ad.add (i * 3)).off + 1, none⟩ = some (.bool b.f1) ∧ w'.cell? ⟨(ad.add (i * 3)).block, (ad.add (i * 3)).off + 2, none⟩ = some (.slice A2 b.f2.length k2)) (ds := [24]) #[false, false, false, false, false, false, false, false, false, false, false, false, false, false, false, false, false, false, false, false, false, false, false, false, false, false] (by kernel_rfl) rfl rfl ⟨CD.out.blk.c6, CD.out.blk.c7, CD.out.blk.c8, CD.out.blk.c9, CD.out.blk.c10, CD.out.blk.c11, CD.out.blk.c16, CD.out.blk.c13, AT.out.c0, AT.out.c1, AT.out.c2⟩ (fun hHeld => ?_)
  generalize W.drew = wd at CD AT HWS hHeld ⊢
  refine pure_ (i := 0) (N := some 10) (v := ?_) (a' := ?_) #[true, false, false, false, false, false, false, false, false, false, false, false, false, false, false, false, false, false, false, false, false, false, false, false, false, false] rfl rfl (by kernel_rfl) (fun _ _ _ h => h) (Or.inl ⟨by rfl, ?_⟩) ?_ ?_
  rotate_left
  · intro w'
    go_simp
    with_reducible rfl
  rotate_left
  · simp only [Act.put, List.setIfInBounds_toArray, List.set_cons_zero, List.set_cons_succ, i64_w, i32_w]
    rfl
  refine pure_ (i := 1) (N := some 11) (v := ?_) (a' := ?_) #[true, true, false, false, false, false, false, false, false, false, false, false, false, false, false, false, false, false, false, false, false, false, false, false, false, false] rfl rfl (by kernel_rfl) (fun _ _ _ h => h) (Or.inl ⟨by rfl, ?_⟩) ?_ ?_
  rotate_left
  · intro w'
    go_simp
    with_reducible rfl
  rotate_left
  · simp only [Act.put, List.setIfInBounds_toArray, List.set_cons_zero, List.set_cons_succ, i64_w, i32_w]
    rfl
  refine pure_ (i := 2) (N := some 12) (v := ?_) (a' := ?_) #[true, true, true, false, false, false, false, false, false, false, false, false, false, false, false, false, false, false, false, false, false, false, false, false, false, false] rfl rfl (by kernel_rfl) (fun _ _ _ h => h) (Or.inl ⟨by rfl, ?_⟩) ?_ ?_
  rotate_left
  · intro w'
    go_simp
    with_reducible rfl
  rotate_left
  · simp only [Act.put, List.setIfInBounds_toArray, List.set_cons_zero, List.set_cons_succ, i64_w, i32_w]
    rfl
  refine pure_ (i := 3) (N := some 13) (v := ?_) (a' := ?_) #[true, true, true, true, false, false, false, false, false, false, false, false, false, false, false, false, false, false, false, false, false, false, false, false, false, false] rfl rfl (by kernel_rfl) (fun _ _ _ h => h) (Or.inl ⟨by rfl, ?_⟩) ?_ ?_
  rotate_left
  · intro w'
    go_simp
    with_reducible rfl
  rotate_left
  · simp only [Act.put, List.setIfInBounds_toArray, List.set_cons_zero, List.set_cons_succ, i64_w, i32_w]
    rfl
  refine pure_ (i := 4) (N := some 14) (v := ?_) (a' := ?_) #[true, true, true, true, true, false, false, false, false, false, false, false, false, false, false, false, false, false, false, false, false, false, false, false, false, false] rfl rfl (by kernel_rfl) (fun _ _ _ h => h) (Or.inl ⟨by rfl, ?_⟩) ?_ ?_
  rotate_left
  · intro w'
    go_simp
    with_reducible rfl
  rotate_left
  · simp only [Act.put, List.setIfInBounds_toArray, List.set_cons_zero, List.set_cons_succ, i64_w, i32_w]
    rfl
  refine pure_ (i := 6) (N := some 16) (v := ?_) (a' := ?_) #[true, true, true, true, true, false, true, false, false, false, false, false, false, false, false, false, false, false, false, false, false, false, false, false, false, false] rfl rfl (by kernel_rfl) (fun _ _ _ h => h) (Or.inl ⟨by rfl, ?_⟩) ?_ ?_
  rotate_left
  · intro w'
    go_simp
    with_reducible rfl
  rotate_left
  · simp only [Act.put, List.setIfInBounds_toArray, List.set_cons_zero, List.set_cons_succ, i64_w, i32_w]
    rfl
  refine pure_ (i := 7) (N := some 17) (v := ?_) (a' := ?_) #[true, true, true, true, true, false, true, true, false, false, false, false, false, false, false, false, false, false, false, false, false, false, false, false, false, false] rfl rfl (by kernel_rfl) (fun _ _ _ h => h) (Or.inl ⟨by rfl, ?_⟩) ?_ ?_
  rotate_left
  · intro w'
    go_simp
    with_reducible rfl
  rotate_left
  · simp only [Act.put, List.setIfInBounds_toArray, List.set_cons_zero, List.set_cons_succ, i64_w, i32_w]
    rfl
  refine pure_ (i := 8) (N := some 18) (v := ?_) (a' := ?_) #[true, true, true, true, true, false, true, true, true, false, false, false, false, false, false, false, false, false, false, false, false, false, false, false, false, false] rfl rfl (by kernel_rfl) (fun _ _ _ h => h) (Or.inl ⟨by rfl, ?_⟩) ?_ ?_
  rotate_left
  · intro w'
    go_simp
    with_reducible rfl
  rotate_left
  · simp only [Act.put, List.setIfInBounds_toArray, List.set_cons_zero, List.set_cons_succ, i64_w, i32_w]
    rfl
  refine pure_ (i := 9) (N := some 19) (v := ?_) (a' := ?_) #[true, true, true, true, true, false, true, true, true, true, false, false, false, false, false, false, false, false, false, false, false, false, false, false, false, false] rfl rfl (by kernel_rfl) (fun _ _ _ h => h) (Or.inl ⟨by rfl, ?_⟩) ?_ ?_
  rotate_left
  · intro w'
    go_simp
    with_reducible rfl
  rotate_left
  · simp only [Act.put, List.setIfInBounds_toArray, List.set_cons_zero, List.set_cons_succ, i64_w, i32_w]
    rfl
  refine pure_ (i := 10) (N := some 20) (v := ?_) (a' := ?_) #[true, true, true, true, true, false, true, true, true, true, true, false, false, false, false, false, false, false, false, false, false, false, false, false, false, false] rfl rfl (by kernel_rfl) (fun _ _ _ h => h) (Or.inl ⟨by rfl, ?_⟩) ?_ ?_
  rotate_left
  · intro w'
    go_simp
    with_reducible rfl
  rotate_left
  · simp only [Act.put, List.setIfInBounds_toArray, List.set_cons_zero, List.set_cons_succ, i64_w, i32_w]
    rfl
  refine pure_ (i := 12) (N := some 22) (v := ?_) (a' := ?_) #[true, true, true, true, true, false, true, true, true, true, true, false, true, false, false, false, false, false, false, false, false, false, false, false, false, false] rfl rfl (by kernel_rfl) (fun _ _ _ h => h) (Or.inl ⟨by rfl, ?_⟩) ?_ ?_
  rotate_left
  · intro w'
    go_simp
    with_reducible rfl
  rotate_left
  · simp only [Act.put, List.setIfInBounds_toArray, List.set_cons_zero, List.set_cons_succ, i64_w, i32_w]
    rfl
  refine pure_ (i := 15) (N := some 25) (v := ?_) (a' := ?_) #[true, true, true, true, true, false, true, true, true, true, true, false, true, false, false, true, false, false, false, false, false, false, false, false, false, false] rfl rfl (by kernel_rfl) (fun _ _ _ h => h) (Or.inl ⟨by rfl, ?_⟩) ?_ ?_
  rotate_left
  · intro w'
    go_simp
    with_reducible rfl
  rotate_left
  · simp only [Act.put, List.setIfInBounds_toArray, List.set_cons_zero, List.set_cons_succ, i64_w, i32_w]
    rfl
  refine pure_ (i := 16) (N := some 26) (v := ?_) (a' := ?_) #[true, true, true, true, true, false, true, true, true, true, true, false, true, false, false, true, true, false, false, false, false, false, false, false, false, false] rfl rfl (by kernel_rfl) (fun _ _ _ h => h) (Or.inl ⟨by rfl, ?_⟩) ?_ ?_
  rotate_left
  · intro w'
    go_simp
    with_reducible rfl
  rotate_left
  · simp only [Act.put, List.setIfInBounds_toArray, List.set_cons_zero, List.set_cons_succ, i64_w, i32_w]
    rfl
  refine pure_ (i := 17) (N := some 27) (v := ?_) (a' := ?_) #[true, true, true, true, true, false, true, true, true, true, true, false, true, false, false, true, true, true, false, false, false, false, false, false, false, false] rfl rfl (by kernel_rfl) (fun _ _ _ h => h) (Or.inl ⟨by rfl, ?_⟩) ?_ ?_
  rotate_left
  · intro w'
    go_simp
    with_reducible rfl
  rotate_left
  · simp only [Act.put, List.setIfInBounds_toArray, List.set_cons_zero, List.set_cons_succ, i64_w, i32_w]
    rfl
  refine take_ (i := 5) (N := some 15) (v := ?_) (a' := ?_) #[true, true, true, true, true, true, true, true, true, true, true, false, true, false, false, true, true, true, false, false, false, false, false, false, false, false] rfl rfl (by kernel_rfl) (fun _ _ _ h => h) (Or.inl ⟨by rfl, ?_⟩) hHeld ?_ ?_
  rotate_left
  · rintro w' ⟨s0, s1, s2, s3, s4, s5, s6, s7, s8, s9, s10⟩
    go_simp
    with_reducible rfl
  rotate_left
  · simp only [Act.put, List.setIfInBounds_toArray, List.set_cons_zero, List.set_cons_succ, i64_w, i32_w]
    rfl
  refine take_ (i := 11) (N := some 21) (v := ?_) (a' := ?_) #[true, true, true, true, true, true, true, true, true, true, true, true, true, false, false, true, true, true, false, false, false, false, false, false, false, false] rfl rfl (by kernel_rfl) (fun _ _ _ h => h) (Or.inl ⟨by rfl, ?_⟩) hHeld ?_ ?_
  rotate_left
  · rintro w' ⟨s0, s1, s2, s3, s4, s5, s6, s7, s8, s9, s10⟩
    go_simp
    with_reducible rfl
  rotate_left
  · simp only [Act.put, List.setIfInBounds_toArray, List.set_cons_zero, List.set_cons_succ, i64_w, i32_w]
    rfl
  refine pure_ (i := 13) (N := some 23) (v := ?_) (a' := ?_) #[true, true, true, true, true, true, true, true, true, true, true, true, true, true, false, true, true, true, false, false, false, false, false, false, false, false] rfl rfl (by kernel_rfl) (fun _ _ _ h => h) (Or.inl ⟨by rfl, ?_⟩) ?_ ?_
  rotate_left
  · intro w'
    go_simp
    with_reducible rfl
  rotate_left
  · simp only [Act.put, List.setIfInBounds_toArray, List.set_cons_zero, List.set_cons_succ, i64_w, i32_w]
    rfl
  refine take_ (i := 14) (N := some 24) (v := ?_) (a' := ?_) #[true, true, true, true, true, true, true, true, true, true, true, true, true, true, true, true, true, true, false, false, false, false, false, false, false, false] rfl rfl (by kernel_rfl) (fun _ _ _ h => h) (Or.inl ⟨by rfl, ?_⟩) hHeld ?_ ?_
  rotate_left
  · rintro w' ⟨s0, s1, s2, s3, s4, s5, s6, s7, s8, s9, s10⟩
    go_simp
    with_reducible rfl
  rotate_left
  · simp only [Act.put, List.setIfInBounds_toArray, List.set_cons_zero, List.set_cons_succ, i64_w, i32_w]
    rfl
  refine take_ (i := 18) (N := some 28) (v := ?_) (a' := ?_) #[true, true, true, true, true, true, true, true, true, true, true, true, true, true, true, true, true, true, true, false, false, false, false, false, false, false] rfl rfl (by kernel_rfl) (fun _ _ _ h => h) (Or.inl ⟨by rfl, ?_⟩) hHeld ?_ ?_
  rotate_left
  · rintro w' ⟨s0, s1, s2, s3, s4, s5, s6, s7, s8, s9, s10⟩
    go_simp
    with_reducible rfl
  rotate_left
  · simp only [Act.put, List.setIfInBounds_toArray, List.set_cons_zero, List.set_cons_succ, i64_w, i32_w]
    rfl
  refine join_ (σ := Nat × Option Addr × Nat × Option Addr × Nat) 2 #[true, true, true, true, true, true, true, true, true, true, true, true, true, true, true, true, true, true, true, true, true, true, true, true, false, false] (fun s => [(29, .tuple #[.agg #[.slice s.2.1 x.f0.length s.2.2.1, .int .i64 x.f1, .int .i64 x.f2, .slice s.2.2.2.1 x.f3.length s.2.2.2.2, .bool x.f4, .int .i64 x.f5], .int .i64 r]), (7, .pointer (some ⟨s.1, 0, none⟩)), (9, .tuple #[.agg #[.slice s.2.1 x.f0.length s.2.2.1, .int .i64 x.f1, .int .i64 x.f2, .slice s.2.2.2.1 x.f3.length s.2.2.2.2, .bool x.f4, .int .i64 x.f5], .int .i64 r]), (30, .agg #[.slice s.2.1 x.f0.length s.2.2.1, .int .i64 x.f1, .int .i64 x.f2, .slice s.2.2.2.1 x.f3.length s.2.2.2.2, .bool x.f4, .int .i64 x.f5]), (31, .int .i64 r)]) (fun s w' => Below wd.heap.size wd w' ∧ wd.heap.size ≤ s.1 ∧ EBlk w' s.1 61 (.slice none 0 0) 0 0 (.slice none 0 0) false 0 ∧ Kd.V kL 28 w' 0 (fun k => wd.heap.size ≤ k ∧ k ≠ s.1) (.slice s.2.1 x.f0.length s.2.2.1) x.f0 ∧ Kd.V k39 39 w' 0 (fun k => wd.heap.size ≤ k ∧ k ≠ s.1) (.slice s.2.2.2.1 x.f3.length s.2.2.2.2) x.f3) ?_ ?_
  rotate_left
  · intro hCont
    refine two_ (i := 19) (j := 23) (Ni := some 29) (Nj := some 7) #[true, true, true, true, true, true, true, true, true, true, true, true, true, true, true, true, true, true, true, true, false, false, false, false, false, false] #[true, true, true, true, true, true, true, true, true, true, true, true, true, true, true, true, true, true, true, false, false, false, false, true, false, false] rfl rfl rfl rfl (by kernel_rfl) (by decide) (by decide) (fun K hK => ?_) (fun K hK => ?_)
    · skip
      refine goes_ Try.func46 (by kernel_rfl) rfl #[.agg #[.slice AO x1.f0.length cO, .int .i64 x1.f1, .int .i64 x1.f2, .slice AI x1.f3.length cI, .bool x1.f4, .int .i64 x1.f5], .agg #[.int .i64 b.f0, .bool b.f1, .slice A2 b.f2.length k2], .int .i64 now] (by rfl) rfl rfl (by simp only [List.map_toArray, List.map_cons, List.map_nil]; rfl) ?_
      with_reducible refine (recv_lit2 HQ.out AO cO AI cI A2 k2 wd (Kd.V_reads' (CD.out.below (Below.refl _ _)).o1).2.2 (Kd.V_reads' (CD.out.below (Below.refl _ _)).i1).2.2 HL.out (AT.out.keep (Below.refl _ _)).cc).mono ?_
      rintro e wx1 ⟨v, rfl, hE, hb⟩
      refine ⟨_, rfl, ?_⟩
      obtain ⟨A5, k5, A6, k6, rfl, hO, hI⟩ := six_read hE
      clear hE
      have hB1 : Below wd.heap.size wd wx1 := hb
      clear hb
      refine hK.out _ _ ⟨(CD.out.below hB1).blk.c6, (CD.out.below hB1).blk.c7, (CD.out.below hB1).blk.c8, (CD.out.below hB1).blk.c9, (CD.out.below hB1).blk.c10, (CD.out.below hB1).blk.c11, (CD.out.below hB1).blk.c16, (CD.out.below hB1).blk.c13, (AT.out.keep hB1).c0, (AT.out.keep hB1).c1, (AT.out.keep hB1).c2⟩ (fun hHeld => ?_)
      clear hK K
      refine norm_ (a' := ?_) ?_ ?_
      rotate_left
      · show Act.put _ (some 29) _ = _
        simp only [Act.put, List.setIfInBounds_toArray, List.set_cons_zero, List.set_cons_succ, i64_w, i32_w]
        rfl
      refine pure_ (i := 20) (N := some 9) (v := ?_) (a' := ?_) #[true, true, true, true, true, true, true, true, true, true, true, true, true, true, true, true, true, true, true, true, true, false, false, false, false, false] rfl rfl (by kernel_rfl) (fun _ _ _ h => h) (Or.inl ⟨by rfl, ?_⟩) ?_ ?_
      rotate_left
      · intro w'
        go_simp
        with_reducible rfl
      rotate_left
      · simp only [Act.put, List.setIfInBounds_toArray, List.set_cons_zero, List.set_cons_succ, i64_w, i32_w]
        rfl
      refine pure_ (i := 21) (N := some 30) (v := ?_) (a' := ?_) #[true, true, true, true, true, true, true, true, true, true, true, true, true, true, true, true, true, true, true, true, true, true, false, false, false, false] rfl rfl (by kernel_rfl) (fun _ _ _ h => h) (Or.inl ⟨by rfl, ?_⟩) ?_ ?_
      rotate_left
      · intro w'
        go_simp
        with_reducible rfl
      rotate_left
      · simp only [Act.put, List.setIfInBounds_toArray, List.set_cons_zero, List.set_cons_succ, i64_w, i32_w]
        rfl
      refine pure_ (i := 22) (N := some 31) (v := ?_) (a' := ?_) #[true, true, true, true, true, true, true, true, true, true, true, true, true, true, true, true, true, true, true, true, true, true, true, false, false, false] rfl rfl (by kernel_rfl) (fun _ _ _ h => h) (Or.inl ⟨by rfl, ?_⟩) ?_ ?_
      rotate_left
      · intro w'
        go_simp
        with_reducible rfl
      rotate_left
      · simp only [Act.put, List.setIfInBounds_toArray, List.set_cons_zero, List.set_cons_succ, i64_w, i32_w]
        rfl
      refine one_ (i := 23) (N := some 7) #[true, true, true, true, true, true, true, true, true, true, true, true, true, true, true, true, true, true, true, true, true, true, true, true, false, false] rfl rfl (by kernel_rfl) (by decide) (fun K hK => ?_)
      refine value_ (w1 := ?_) (v := ?_) (by rfl) rfl ?_ ?_
      rotate_left 2
      · go_simp
        constructor
        all_goals rfl
      have hB2 : Below wd.heap.size wd (wx1.alloc (.cells #[.slice none 0 0, .int .i64 0, .int .i64 0, .slice none 0 0, .bool false, .int .i64 0] 61)) := al hB1 _
      have hZ := EBlk.new wx1 61 (.slice none 0 0) (.slice none 0 0) 0 0 0 false
      have htle : wd.heap.size ≤ wx1.heap.size := hB1.size
      replace hO := Kd.V_mono (Kd.V_alloc (Kd.V_bound hO) (.cells #[.slice none 0 0, .int .i64 0, .int .i64 0, .slice none 0 0, .bool false, .int .i64 0] 61)) (fun k hk => show wd.heap.size ≤ k ∧ k ≠ wx1.heap.size from ⟨hk.1, by have := hk.2; omega⟩)
      replace hI := Kd.V_mono (Kd.V_alloc (Kd.V_bound hI) (.cells #[.slice none 0 0, .int .i64 0, .int .i64 0, .slice none 0 0, .bool false, .int .i64 0] 61)) (fun k hk => show wd.heap.size ≤ k ∧ k ≠ wx1.heap.size from ⟨hk.1, by have := hk.2; omega⟩)
      generalize wx1.alloc (.cells #[.slice none 0 0, .int .i64 0, .int .i64 0, .slice none 0 0, .bool false, .int .i64 0] 61) = wx2 at hB2 hZ hO hI ⊢
      refine hK.out _ _ ⟨(CD.out.below hB2).blk.c6, (CD.out.below hB2).blk.c7, (CD.out.below hB2).blk.c8, (CD.out.below hB2).blk.c9, (CD.out.below hB2).blk.c10, (CD.out.below hB2).blk.c11, (CD.out.below hB2).blk.c16, (CD.out.below hB2).blk.c13, (AT.out.keep hB2).c0, (AT.out.keep hB2).c1, (AT.out.keep hB2).c2⟩ (fun hHeld => ?_)
      clear hK K
      refine norm_ (a' := ?_) ?_ ?_
      rotate_left
      · show Act.put _ (some 7) _ = _
        simp only [Act.put, List.setIfInBounds_toArray, List.set_cons_zero, List.set_cons_succ, i64_w, i32_w]
        rfl
      exact norm_ (by simp only [putAll, Act.put, List.setIfInBounds_toArray, List.set_cons_zero, List.set_cons_succ] <;> rfl) (hCont (wx1.heap.size, A5, k5, A6, k6) _ ⟨hB2, htle, hZ, hO, hI⟩)
    · skip
      refine value_ (w1 := ?_) (v := ?_) (by rfl) rfl ?_ ?_
      rotate_left 2
      · go_simp
        constructor
        all_goals rfl
      have hB1 : Below wd.heap.size wd (wd.alloc (.cells #[.slice none 0 0, .int .i64 0, .int .i64 0, .slice none 0 0, .bool false, .int .i64 0] 61)) := below_one _ _
      have hZ := EBlk.new wd 61 (.slice none 0 0) (.slice none 0 0) 0 0 0 false
      have htle : wd.heap.size ≤ wd.heap.size := Nat.le_refl _
      generalize wd.alloc (.cells #[.slice none 0 0, .int .i64 0, .int .i64 0, .slice none 0 0, .bool false, .int .i64 0] 61) = wx1 at hB1 hZ ⊢
      refine hK.out _ _ ⟨(CD.out.below hB1).blk.c6, (CD.out.below hB1).blk.c7, (CD.out.below hB1).blk.c8, (CD.out.below hB1).blk.c9, (CD.out.below hB1).blk.c10, (CD.out.below hB1).blk.c11, (CD.out.below hB1).blk.c16, (CD.out.below hB1).blk.c13, (AT.out.keep hB1).c0, (AT.out.keep hB1).c1, (AT.out.keep hB1).c2⟩ (fun hHeld => ?_)
      clear hK K
      refine norm_ (a' := ?_) ?_ ?_
      rotate_left
      · show Act.put _ (some 7) _ = _
        simp only [Act.put, List.setIfInBounds_toArray, List.set_cons_zero, List.set_cons_succ, i64_w, i32_w]
        rfl
      refine one_ (i := 19) (N := some 29) #[true, true, true, true, true, true, true, true, true, true, true, true, true, true, true, true, true, true, true, true, false, false, false, true, false, false] rfl rfl (by kernel_rfl) (by decide) (fun K hK => ?_)
      refine goes_ Try.func46 (by kernel_rfl) rfl #[.agg #[.slice AO x1.f0.length cO, .int .i64 x1.f1, .int .i64 x1.f2, .slice AI x1.f3.length cI, .bool x1.f4, .int .i64 x1.f5], .agg #[.int .i64 b.f0, .bool b.f1, .slice A2 b.f2.length k2], .int .i64 now] (by rfl) rfl rfl (by simp only [List.map_toArray, List.map_cons, List.map_nil]; rfl) ?_
      with_reducible refine (recv_lit2 HQ.out AO cO AI cI A2 k2 wx1 (Kd.V_reads' (CD.out.below hB1).o1).2.2 (Kd.V_reads' (CD.out.below hB1).i1).2.2 HL.out (AT.out.keep hB1).cc).mono ?_
      rintro e wx2 ⟨v, rfl, hE, hb⟩
      refine ⟨_, rfl, ?_⟩
      obtain ⟨A5, k5, A6, k6, rfl, hO, hI⟩ := six_read hE
      clear hE
      replace hO := Kd.V_mono hO (ok' := fun k => wd.heap.size ≤ k ∧ k ≠ wd.heap.size) (fun k hk => show wd.heap.size ≤ k ∧ k ≠ wd.heap.size from ⟨by have := hB1.size; omega, by have := heap_lt hZ; omega⟩)
      replace hI := Kd.V_mono hI (ok' := fun k => wd.heap.size ≤ k ∧ k ≠ wd.heap.size) (fun k hk => show wd.heap.size ≤ k ∧ k ≠ wd.heap.size from ⟨by have := hB1.size; omega, by have := heap_lt hZ; omega⟩)
      replace hZ := hZ.below hb
      have hB2 : Below wd.heap.size wd wx2 := bb hB1 hb
      clear hb
      refine hK.out _ _ ⟨(CD.out.below hB2).blk.c6, (CD.out.below hB2).blk.c7, (CD.out.below hB2).blk.c8, (CD.out.below hB2).blk.c9, (CD.out.below hB2).blk.c10, (CD.out.below hB2).blk.c11, (CD.out.below hB2).blk.c16, (CD.out.below hB2).blk.c13, (AT.out.keep hB2).c0, (AT.out.keep hB2).c1, (AT.out.keep hB2).c2⟩ (fun hHeld => ?_)
      clear hK K
      refine norm_ (a' := ?_) ?_ ?_
      rotate_left
      · show Act.put _ (some 29) _ = _
        simp only [Act.put, List.setIfInBounds_toArray, List.set_cons_zero, List.set_cons_succ, i64_w, i32_w]
        rfl
      refine pure_ (i := 20) (N := some 9) (v := ?_) (a' := ?_) #[true, true, true, true, true, true, true, true, true, true, true, true, true, true, true, true, true, true, true, true, true, false, false, true, false, false] rfl rfl (by kernel_rfl) (fun _ _ _ h => h) (Or.inl ⟨by rfl, ?_⟩) ?_ ?_
      rotate_left
      · intro w'
        go_simp
        with_reducible rfl
      rotate_left
      · simp only [Act.put, List.setIfInBounds_toArray, List.set_cons_zero, List.set_cons_succ, i64_w, i32_w]
        rfl
      refine pure_ (i := 21) (N := some 30) (v := ?_) (a' := ?_) #[true, true, true, true, true, true, true, true, true, true, true, true, true, true, true, true, true, true, true, true, true, true, false, true, false, false] rfl rfl (by kernel_rfl) (fun _ _ _ h => h) (Or.inl ⟨by rfl, ?_⟩) ?_ ?_
      rotate_left
      · intro w'
        go_simp
        with_reducible rfl
      rotate_left
      · simp only [Act.put, List.setIfInBounds_toArray, List.set_cons_zero, List.set_cons_succ, i64_w, i32_w]
        rfl
      refine pure_ (i := 22) (N := some 31) (v := ?_) (a' := ?_) #[true, true, true, true, true, true, true, true, true, true, true, true, true, true, true, true, true, true, true, true, true, true, true, true, false, false] rfl rfl (by kernel_rfl) (fun _ _ _ h => h) (Or.inl ⟨by rfl, ?_⟩) ?_ ?_
      rotate_left
      · intro w'
        go_simp
        with_reducible rfl
      rotate_left
      · simp only [Act.put, List.setIfInBounds_toArray, List.set_cons_zero, List.set_cons_succ, i64_w, i32_w]
        rfl
      exact norm_ (by simp only [putAll, Act.put, List.setIfInBounds_toArray, List.set_cons_zero, List.set_cons_succ] <;> rfl) (hCont (wd.heap.size, A5, k5, A6, k6) _ ⟨hB2, htle, hZ, hO, hI⟩)
  rintro ⟨t, A5, k5, A6, k6⟩ w3 ⟨hB, htle, hZ, hO, hI⟩
  have hHeld : w3.cell? ⟨g, 6, none⟩ = some (.slice AO x1.f0.length cO) ∧ w3.cell? ⟨g, 7, none⟩ = some (.int .i64 x1.f1) ∧ w3.cell? ⟨g, 8, none⟩ = some (.int .i64 x1.f2) ∧ w3.cell? ⟨g, 9, none⟩ = some (.slice AI x1.f3.length cI) ∧ w3.cell? ⟨g, 10, none⟩ = some (.bool x1.f4) ∧ w3.cell? ⟨g, 11, none⟩ = some (.int .i64 x1.f5) ∧ w3.cell? ⟨g, 16, none⟩ = some (.int .i64 now) ∧ w3.cell? ⟨g, 13, none⟩ = some (.slice (some ad) l1.length cW) ∧ w3.cell? (ad.add (i * 3)) = some (.int .i64 b.f0) ∧ w3.cell? ⟨(ad.add (i * 3)).block, (ad.add (i * 3)).off + 1, none⟩ = some (.bool b.f1) ∧ w3.cell? ⟨(ad.add (i * 3)).block, (ad.add (i * 3)).off + 2, none⟩ = some (.slice A2 b.f2.length k2) := ⟨(CD.out.below hB).blk.c6, (CD.out.below hB).blk.c7, (CD.out.below hB).blk.c8, (CD.out.below hB).blk.c9, (CD.out.below hB).blk.c10, (CD.out.below hB).blk.c11, (CD.out.below hB).blk.c16, (CD.out.below hB).blk.c13, (AT.out.keep hB).c0, (AT.out.keep hB).c1, (AT.out.keep hB).c2⟩
  refine norm_ (a' := ?_) ?_ ?_
  rotate_left
  · simp only [putAll, Act.put, List.setIfInBounds_toArray, List.set_cons_zero, List.set_cons_succ]
    rfl
  refine last_ (i := 24) (N := none) #[true, true, true, true, true, true, true, true, true, true, true, true, true, true, true, true, true, true, true, true, true, true, true, true, true, false] rfl rfl (by kernel_rfl) (by decide) (fun K hK => ?_)
  have z0 := hZ.c0; have z1 := hZ.c1; have z2 := hZ.c2; have z3 := hZ.c3; have z4 := hZ.c4; have z5 := hZ.c5; have y := blk_frozen hZ
  refine skip_ (w1 := ?_) (by rfl) rfl ?_ ?_
  rotate_left
  · go_simp
    rfl
  obtain ⟨w4, hw9, Z9, F9⟩ := six hZ (.slice A5 x.f0.length k5) x.f1 x.f2 (.slice A6 x.f3.length k6) x.f4 x.f5
  rw [← hw9]
  clear hw9 z0 z1 z2 z3 z4 z5 y
  refine hK.out _ _ ?_
  clear hK K
  refine pure_ (i := 25) (N := some 8) (v := ?_) (a' := ?_) #[true, true, true, true, true, true, true, true, true, true, true, true, true, true, true, true, true, true, true, true, true, true, true, true, true, true] rfl rfl (by kernel_rfl) (fun _ _ _ h => h) (Or.inl ⟨by rfl, ?_⟩) ?_ ?_
  rotate_left
  · intro w'
    go_simp
    with_reducible rfl
  rotate_left
  · simp only [Act.put, List.setIfInBounds_toArray, List.set_cons_zero, List.set_cons_succ, i64_w, i32_w]
    rfl
  refine done_ (by kernel_rfl) ?_

  have hB4 : Below wd.heap.size wd w4 := Fr.below F9 hB (Nat.le_refl _) (fun k hk => by omega)
  have C4 := Lib.hid (CD.out.below hB4)
  have O4 := Lib.hid (Kd.V_mono (Kd.V_step hO (fun k hk hlt => F9.same k hlt hk.2)) (fun k hk => CD.out.fresh hk.1))
  have I4 := Lib.hid (Kd.V_mono (Kd.V_step hI (fun k hk hlt => F9.same k hlt hk.2)) (fun k hk => CD.out.fresh hk.1))
  have Z4 := Lib.hid Z9
  have B4 := Lib.hid (bb HWS.out hB4)
  clear hO hI F9 hB hB4 hZ Z9 htle hHeld HQ
  by_cases hr : r = 0
  · subst hr
    go_wp2_with fail
    replace C4 := Lib.hid (C4.out.below (below_drew (Below.refl _ _))); replace O4 := Lib.hid (Kd.V_drew O4.out); replace I4 := Lib.hid (Kd.V_drew I4.out); replace Z4 := Lib.hid (Z4.out.below (below_drew (Below.refl _ _)))
    refine start_ (n := 7) (S := fun w' => w'.cell? ⟨t, 0, none⟩ = some (.slice A5 x.f0.length k5) ∧ w'.cell? ⟨t, 1, none⟩ = some (.int .i64 x.f1) ∧ w'.cell? ⟨t, 2, none⟩ = some (.int .i64 x.f2) ∧ w'.cell? ⟨t, 3, none⟩ = some (.slice A6 x.f3.length k6) ∧ w'.cell? ⟨t, 4, none⟩ = some (.bool x.f4) ∧ w'.cell? ⟨t, 5, none⟩ = some (.int .i64 x.f5)) (ds := [6]) #[false, false, false, false, false, false, false] (by kernel_rfl) rfl rfl ⟨Z4.out.c0, Z4.out.c1, Z4.out.c2, Z4.out.c3, Z4.out.c4, Z4.out.c5⟩ (fun hHeld => ?_)
    generalize w4.drew = w5 at C4 O4 I4 Z4 hHeld ⊢
    refine pure_ (i := 0) (N := some 34) (v := ?_) (a' := ?_) #[true, false, false, false, false, false, false] rfl rfl (by kernel_rfl) (fun _ _ _ h => h) (Or.inl ⟨by rfl, ?_⟩) ?_ ?_
    rotate_left
    · intro w'
      go_simp
      with_reducible rfl
    rotate_left
    · simp only [Act.put, List.setIfInBounds_toArray, List.set_cons_zero, List.set_cons_succ, i64_w, i32_w]
      rfl
    refine pure_ (i := 1) (N := some 35) (v := ?_) (a' := ?_) #[true, true, false, false, false, false, false] rfl rfl (by kernel_rfl) (fun _ _ _ h => h) (Or.inl ⟨by rfl, ?_⟩) ?_ ?_
    rotate_left
    · intro w'
      go_simp
      with_reducible rfl
    rotate_left
    · simp only [Act.put, List.setIfInBounds_toArray, List.set_cons_zero, List.set_cons_succ, i64_w, i32_w]
      rfl
    refine pure_ (i := 3) (N := some 37) (v := ?_) (a' := ?_) #[true, true, false, true, false, false, false] rfl rfl (by kernel_rfl) (fun _ _ _ h => h) (Or.inl ⟨by rfl, ?_⟩) ?_ ?_
    rotate_left
    · intro w'
      go_simp
      with_reducible rfl
    rotate_left
    · simp only [Act.put, List.setIfInBounds_toArray, List.set_cons_zero, List.set_cons_succ, i64_w, i32_w]
      rfl
    refine pure_ (i := 4) (N := some 38) (v := ?_) (a' := ?_) #[true, true, false, true, true, false, false] rfl rfl (by kernel_rfl) (fun _ _ _ h => h) (Or.inl ⟨by rfl, ?_⟩) ?_ ?_
    rotate_left
    · intro w'
      go_simp
      with_reducible rfl
    rotate_left
    · simp only [Act.put, List.setIfInBounds_toArray, List.set_cons_zero, List.set_cons_succ, i64_w, i32_w]
      rfl
    refine take_ (i := 2) (N := some 36) (v := ?_) (a' := ?_) #[true, true, true, true, true, false, false] rfl rfl (by kernel_rfl) (fun _ _ _ h => h) (Or.inl ⟨by rfl, ?_⟩) hHeld ?_ ?_
    rotate_left
    · rintro w' ⟨s0, s1, s2, s3, s4, s5⟩
      go_simp
      with_reducible rfl
    rotate_left
    · simp only [Act.put, List.setIfInBounds_toArray, List.set_cons_zero, List.set_cons_succ, i64_w, i32_w]
      rfl
    refine pure_ (i := 5) (N := some 39) (v := ?_) (a' := ?_) #[true, true, true, true, true, true, false] rfl rfl (by kernel_rfl) (fun _ _ _ h => h) (Or.inl ⟨by rfl, ?_⟩) ?_ ?_
    rotate_left
    · intro w'
      go_simp
      with_reducible rfl
    rotate_left
    · simp only [Act.put, List.setIfInBounds_toArray, List.set_cons_zero, List.set_cons_succ, i64_w, i32_w]
      rfl
    refine last_ (i := 6) (N := none) #[true, true, true, true, true, true, true] rfl rfl (by kernel_rfl) (by decide) (fun K hK => ?_)
    have z0 := C4.out.blk.c6; have z1 := C4.out.blk.c7; have z2 := C4.out.blk.c8; have z3 := C4.out.blk.c9; have z4 := C4.out.blk.c10; have z5 := C4.out.blk.c11; have y := blk_frozen C4.out.blk
    refine skip_ (w1 := ?_) (by rfl) rfl ?_ ?_
    rotate_left
    · go_simp
      rfl
    obtain ⟨w6, hw9, hB9, F9⟩ := C4.out.blk.end1 (.slice A5 x.f0.length k5) (.slice A6 x.f3.length k6) x
    rw [← hw9]
    clear hw9 z0 z1 z2 z3 z4 z5 y
    refine hK.out _ _ ?_
    clear hK K
    refine done_ (by kernel_rfl) ?_

    have C6 := Lib.hid (C4.out.set1 F9 hB9 O4.out I4.out)
    clear C4 O4 I4 Z4 F9 hB9 hHeld
    go_wp2_with fail
    go_ret
    exact ⟨rfl, .slice A5 x.f0.length k5, .slice A6 x.f3.length k6, C6.out⟩
  · have hz : (r != 0) = true := by simpa using hr
    have HRN := Lib.hid hr
    clear hr
    go_wp2_with fail
    go_ret
    exact Or.inl ⟨HRN.out, rfl, B4.out⟩
end Go.Proofs.Ytbfhohpbldadbaa.P

namespace Go.Proofs.Ytbfhohpbldadbaa.P
open Go Go.RowKit Go.Proofs.YtbfhohpbldadbaaW.PrintWords Go.Proofs.YtbfhohpbldadbaaW.PrintLast Go.Proofs.YtbfhohpbldadbaaW.PrintMore
set_option linter.unusedVariables false
set_option linter.unusedSimpArgs false
theorem RR_drop {α : Type} {R : α → List Value → Prop} {size : Nat} {w : World} {ad : Addr} {ps : List α} (h : ReadsRow R size w (some ad) ps.length ps) (m : Nat) : ReadsRow R size w (some (ad.add (m * size))) (ps.drop m).length (ps.drop m) := by
  refine ⟨rfl, by have := h.2.1; rw [List.length_drop]; omega, fun hp => ⟨_, rfl, fun j p hj => ?_⟩⟩
  rw [List.length_drop] at hp
  obtain ⟨ad', he, hc⟩ := h.2.2 (by omega)
  injection he with he
  subst he
  rw [List.getElem?_drop] at hj
  obtain ⟨c, hcl, hR, hcc⟩ := hc (m + j) p hj
  refine ⟨c, hcl, hR, fun i u hi => ?_⟩
  have := hcc i u hi
  rw [add_add, show m * size + (j * size + i) = (m + j) * size + i by rw [Nat.add_mul]; omega]
  exact this
theorem ne_new {W : World} {v1 : Value} {k : Nat} (hn : v1.ownBlock = none ∨ ∃ b, v1.ownBlock = some b ∧ W.heap.size ≤ b) (hlt : k < W.heap.size) : some k ≠ v1.ownBlock := by
  rcases hn with h | ⟨b, h, hb⟩
  · rw [h]; simp
  · rw [h]; intro e; injection e with e; omega
section
variable {w W W' : World} {g : Nat} {vo0 vi0 : Value} {x0 : S61} {vo1 vi1 : Value} {x1 : S61} {w0 w1 : Value} {l0 l1 : List S83} {p0 p1 : Value} {r0 r1 : List S39} {now : Int}
/-- A new row takes the place of the messages to 0. -/
theorem Chan.new0 (h : Chan w W g vo0 vi0 x0 vo1 vi1 x1 w0 w1 l0 l1 p0 p1 r0 r1 now) {v1 : Value} {l : List S83} (hb : Below W.heap.size W W') (hn : v1.ownBlock = none ∨ ∃ b, v1.ownBlock = some b ∧ W.heap.size ≤ b)
    (hR : Kd.R k83 83 W' w.heap.size (fun k => k ≠ g ∧ some k ≠ w1.ownBlock ∧ some k ≠ p0.ownBlock ∧ some k ≠ p1.ownBlock) v1 l) : Chan w (W'.setCell ⟨g, 12, none⟩ v1) g vo0 vi0 x0 vo1 vi1 x1 v1 w1 l l1 p0 p1 r0 r1 now := by
  have hblk : ChB W' g vo0 vi0 x0 vo1 vi1 x1 w0 w1 p0 p1 now := h.blk.below hb
  have nr : ∀ k, NR g w0 w1 p0 p1 k ∧ k < W.heap.size → NR g v1 w1 p0 p1 k := fun k hk => ⟨hk.1.1, ne_new hn hk.2, hk.1.2.2⟩
  refine ⟨below_set (g := g) (w := w) (W := W') (bb h.low hb) (Nat.le_refl _) h.ge 12 v1, h.ge, blk_put hblk 12 v1 rfl, ?_, ?_, ?_, ?_, ?_, ?_, ?_, ?_⟩
  · exact Kd.V_far (p := ⟨g, 12, none⟩) (Kd.V_mono (Kd.V_below (Kd.V_bound h.o0) hb) nr) (fun k hk => hk.1) v1
  · exact Kd.V_far (p := ⟨g, 12, none⟩) (Kd.V_mono (Kd.V_below (Kd.V_bound h.i0) hb) nr) (fun k hk => hk.1) v1
  · exact Kd.V_far (p := ⟨g, 12, none⟩) (Kd.V_mono (Kd.V_below (Kd.V_bound h.o1) hb) nr) (fun k hk => hk.1) v1
  · exact Kd.V_far (p := ⟨g, 12, none⟩) (Kd.V_mono (Kd.V_below (Kd.V_bound h.i1) hb) nr) (fun k hk => hk.1) v1
  · exact Kd.R_far (p := ⟨g, 12, none⟩) hR (fun k hk => hk.1) v1
  · exact Kd.R_far (p := ⟨g, 12, none⟩) (Kd.R_mono (Kd.R_below (Kd.R_bound h.ww1) hb) (fun k hk => ⟨hk.1.1, ne_new hn hk.2.2.1, hk.1.2.2⟩)) (fun k hk => hk.1) v1
  · exact Kd.R_far (p := ⟨g, 12, none⟩) (Kd.R_mono (Kd.R_below (Kd.R_bound h.pp0) hb) (fun k hk => ⟨hk.1.1, ne_new hn hk.2.2.1, hk.1.2.2⟩)) (fun k hk => hk.1) v1
  · exact Kd.R_far (p := ⟨g, 12, none⟩) (Kd.R_mono (Kd.R_below (Kd.R_bound h.pp1) hb) (fun k hk => ⟨hk.1.1, ne_new hn hk.2.2.1, hk.1.2.2⟩)) (fun k hk => hk.1) v1
/-- A new row takes the place of the messages to 1. -/
theorem Chan.new1 (h : Chan w W g vo0 vi0 x0 vo1 vi1 x1 w0 w1 l0 l1 p0 p1 r0 r1 now) {v1 : Value} {l : List S83} (hb : Below W.heap.size W W') (hn : v1.ownBlock = none ∨ ∃ b, v1.ownBlock = some b ∧ W.heap.size ≤ b)
    (hR : Kd.R k83 83 W' w.heap.size (fun k => k ≠ g ∧ some k ≠ w0.ownBlock ∧ some k ≠ p0.ownBlock ∧ some k ≠ p1.ownBlock) v1 l) : Chan w (W'.setCell ⟨g, 13, none⟩ v1) g vo0 vi0 x0 vo1 vi1 x1 w0 v1 l0 l p0 p1 r0 r1 now := by
  have hblk : ChB W' g vo0 vi0 x0 vo1 vi1 x1 w0 w1 p0 p1 now := h.blk.below hb
  have nr : ∀ k, NR g w0 w1 p0 p1 k ∧ k < W.heap.size → NR g w0 v1 p0 p1 k := fun k hk => ⟨hk.1.1, hk.1.2.1, ne_new hn hk.2, hk.1.2.2.2⟩
  refine ⟨below_set (g := g) (w := w) (W := W') (bb h.low hb) (Nat.le_refl _) h.ge 13 v1, h.ge, blk_put hblk 13 v1 rfl, ?_, ?_, ?_, ?_, ?_, ?_, ?_, ?_⟩
  · exact Kd.V_far (p := ⟨g, 13, none⟩) (Kd.V_mono (Kd.V_below (Kd.V_bound h.o0) hb) nr) (fun k hk => hk.1) v1
  · exact Kd.V_far (p := ⟨g, 13, none⟩) (Kd.V_mono (Kd.V_below (Kd.V_bound h.i0) hb) nr) (fun k hk => hk.1) v1
  · exact Kd.V_far (p := ⟨g, 13, none⟩) (Kd.V_mono (Kd.V_below (Kd.V_bound h.o1) hb) nr) (fun k hk => hk.1) v1
  · exact Kd.V_far (p := ⟨g, 13, none⟩) (Kd.V_mono (Kd.V_below (Kd.V_bound h.i1) hb) nr) (fun k hk => hk.1) v1
  · exact Kd.R_far (p := ⟨g, 13, none⟩) (Kd.R_mono (Kd.R_below (Kd.R_bound h.ww0) hb) (fun k hk => ⟨hk.1.1, ne_new hn hk.2.2.1, hk.1.2.2⟩)) (fun k hk => hk.1) v1
  · exact Kd.R_far (p := ⟨g, 13, none⟩) hR (fun k hk => hk.1) v1
  · exact Kd.R_far (p := ⟨g, 13, none⟩) (Kd.R_mono (Kd.R_below (Kd.R_bound h.pp0) hb) (fun k hk => ⟨hk.1.1, hk.1.2.1, ne_new hn hk.2.2.1, hk.1.2.2.2⟩)) (fun k hk => hk.1) v1
  · exact Kd.R_far (p := ⟨g, 13, none⟩) (Kd.R_mono (Kd.R_below (Kd.R_bound h.pp1) hb) (fun k hk => ⟨hk.1.1, hk.1.2.1, ne_new hn hk.2.2.1, hk.1.2.2.2⟩)) (fun k hk => hk.1) v1
end
/-- A world that has grown by none of the elder blocks. -/
theorem below_grown {W W' : World} {row : Option Nat} (hg : W.grownBy W' row) (hn : row = none ∨ ∃ b, row = some b ∧ W.heap.size ≤ b) : Below W.heap.size W W' :=
  ⟨hg.os, hg.tape, hg.output, hg.size, fun k hk => hg.block k hk (by rcases hn with h | ⟨b, h, hb⟩ <;> rw [h] <;> simp; omega)⟩
theorem add0g (g n : Nat) : (⟨g, 0, none⟩ : Addr).add (n * k83.sz) = ⟨g, n * 3, none⟩ := by
  show (⟨g, 0, none⟩ : Addr).add (n * 3) = _
  unfold Addr.add
  split
  · next h => rw [h]
  · simp
theorem RR_nil {α : Type} (R : α → List Value → Prop) (size : Nat) (w : World) (A : Option Addr) : ReadsRow R size w A 0 [] := ⟨rfl, by omega, fun h => absurd h (Nat.lt_irrefl _)⟩
theorem below_two {W w3 w4 : World} {v3 : Value} (hb : Below W.heap.size W w3) (hg : w3.grownBy w4 v3.ownBlock) (hn : v3.ownBlock = none ∨ ∃ b, v3.ownBlock = some b ∧ W.heap.size ≤ b) : Below W.heap.size W w4 :=
  ⟨hg.os.trans hb.os, hg.tape.trans hb.tape, hg.output.trans hb.output, Nat.le_trans hb.size hg.size, fun k hk => (hg.block k (Nat.lt_of_lt_of_le hk hb.size) (ne_new hn hk)).trans (hb.block k hk)⟩
theorem new_two {W w3 : World} {v3 v4 : Value} (hb : Below W.heap.size W w3) (hn : v3.ownBlock = none ∨ ∃ b, v3.ownBlock = some b ∧ W.heap.size ≤ b) (hat : v4.ownBlock = v3.ownBlock ∨ ∃ b, v4.ownBlock = some b ∧ w3.heap.size ≤ b) : v4.ownBlock = none ∨ ∃ b, v4.ownBlock = some b ∧ W.heap.size ≤ b := by
  rcases hat with h | ⟨b, h, hb2⟩
  · rw [h]; exact hn
  · exact Or.inr ⟨b, h, Nat.le_trans hb.size hb2⟩
set_option maxHeartbeats 16000000 in
set_option maxRecDepth 100000 in
theorem loseCh0 (w W : World) (g : Nat) (vo0 vi0 : Value) (x0 : S61) (vo1 vi1 : Value) (x1 : S61) (w0 w1 : Value) (l0 l1 : List S83) (p0 p1 : Value) (r0 r1 : List S39) (now : Int) (h : Chan w W g vo0 vi0 x0 vo1 vi1 x1 w0 w1 l0 l1 p0 p1 r0 r1 now) (i : Nat) (hi : i < l0.length) (hw : l0.length ≤ 1000000) :
    Calls Try.prog 41 #[.pointer (some ⟨g, 0, none⟩), .int .i64 0, .int .i64 i] W fun e W' => e = .returned (.tuple #[]) ∧ ∃ wv, Chan w W' g vo0 vi0 x0 vo1 vi1 x1 wv w1 (l0.take i ++ l0.drop (i + 1)) l1 p0 p1 r0 r1 now := by
  obtain ⟨gw, cW, hvw, _, _, _⟩ := Kd.R_form h.ww0 (by omega)
  subst hvw
  have hcap : l0.length ≤ cW := (Kd.R_reads' h.ww0).2.1
  have FR := Lib.hid (fun k (hk : W.heap.size ≤ k) => h.fresh hk)
  have C := Lib.hid h; have HI := Lib.hid hi; have HW := Lib.hid hw
  have HM := Lib.hid (show ReadsRow (k83.M W w.heap.size (fun k => (k ≠ g ∧ some k ≠ w1.ownBlock ∧ some k ≠ p0.ownBlock ∧ some k ≠ p1.ownBlock) ∧ k < W.heap.size)) k83.sz W (some ⟨gw, 0, none⟩) l0.length l0 by
    obtain ⟨A, c, hv, hc, hr⟩ := OwnRow.reads (Kd.R_bound h.ww0).2
    injection hv with h1 h2 h3
    subst h1
    exact hr.imp_ (Below.refl _ _) (fun _ _ hp => k83.M_mono (fun k hk => ⟨hk.1.1, hk.1.2.2.1⟩) hp))
  have HT := Lib.hid (show ReadsRow (k83.M W w.heap.size (fun k => (k ≠ g ∧ some k ≠ w1.ownBlock ∧ some k ≠ p0.ownBlock ∧ some k ≠ p1.ownBlock) ∧ k < W.heap.size)) k83.sz W (some ⟨gw, 0, none⟩) i (l0.take i) by
    refine ⟨by rw [List.length_take]; omega, by have := hw; omega, fun hp => ?_⟩
    obtain ⟨ad, he, hc⟩ := HM.out.2.2 (by omega)
    refine ⟨ad, he, fun j p hj => hc j p ?_⟩
    rw [List.getElem?_take] at hj
    split at hj
    · exact hj
    · cases hj)
  have i0 : (0 : Int) ≤ (i : Int) := by omega
  have i1 : (i : Int) ≤ (cW : Int) := by omega
  have c13 := C.out.blk.c12
  clear h hi hw
  go_enter Try.func41, Try.ntmps41
  have hwi : wrap64 ((i : Int) + 1) = (i : Int) + 1 := wid (by omega) (by have := HI.out; have := HW.out; omega)
  have i2 : (i : Int) + 1 ≤ (l0.length : Int) := by have := HI.out; omega
  have i3 : (l0.length : Int) ≤ (cW : Int) := by omega
  have hcat : l0.take i ++ l0.drop (i + 1) = l0.take i ++ l0.drop (i + 1) := rfl
  by_cases hk : cW = i + 1
  · have hll : l0.length = i + 1 := by have := HI.out; omega
    have hdr : l0.drop (i + 1) = [] := List.drop_eq_nil_of_le (by omega)
    have HDR := Lib.hid hdr
    have HLL := Lib.hid hll
    clear hcat hdr i3
    subst hk
    go_wp2_with (first
      | ((with_reducible refine gate_builtin (b := .append) (xs := #[.tmp 7, .tmp 15]) rfl ?_); at_builtin; refine Kd.R_append_rows k83 (Rr := k83.M W w.heap.size (fun k => (k ≠ g ∧ some k ≠ w1.ownBlock ∧ some k ≠ p0.ownBlock ∧ some k ≠ p1.ownBlock) ∧ k < W.heap.size)) (w0 := w) w.heap.size rfl (.tmp 7) (.tmp 15) 65 83 (.agg #[.int .i64 0, .bool false, .slice none 0 0]) 40 rfl Try.underlying65 info83 rfl (by decide) (by decide) (.slice none 0 0) [] (l0.take i) (some ⟨gw, 0, none⟩) i _ (fun k => k ≠ g ∧ some k ≠ w1.ownBlock ∧ some k ≠ p0.ownBlock ∧ some k ≠ p1.ownBlock) (fun k => (k ≠ g ∧ some k ≠ w1.ownBlock ∧ some k ≠ p0.ownBlock ∧ some k ≠ p1.ownBlock) ∧ k < W.heap.size) rfl rfl (Kd.R_nil _ _ _ _ _) HT.out (fun _ _ h => h) (fun k hk => ⟨hk.1, by simp [Value.ownBlock]⟩) (fun k hk => ⟨(FR.out k hk).1, (FR.out k hk).2.2⟩) C.out.low C.out.low.size (by have := HI.out; have := HW.out; simp only [List.length_nil]; omega) ?_; intro v3 w3 hR3 hb3 hg3 hat3; have BW1 := Lib.hid (below_grown hg3 (Or.inl rfl)); have C3 := Lib.hid (C.out.below BW1.out); have R3 := Lib.hid hR3; have NW := Lib.hid (show v3.ownBlock = none ∨ ∃ b, v3.ownBlock = some b ∧ W.heap.size ≤ b from hat3); clear hR3 hb3 hg3 hat3 c13; have c13 := C3.out.blk.c12)
      | ((with_reducible refine gate_builtin (b := .append) (xs := #[.tmp 17, .tmp 26]) rfl ?_); at_builtin; refine Kd.R_append_rows k83 (Rr := k83.M w3 w.heap.size (fun k => (k ≠ g ∧ some k ≠ w1.ownBlock ∧ some k ≠ p0.ownBlock ∧ some k ≠ p1.ownBlock) ∧ k < W.heap.size)) (w0 := w) w.heap.size rfl (.tmp 17) (.tmp 26) 65 83 (.agg #[.int .i64 0, .bool false, .slice none 0 0]) 40 rfl Try.underlying65 info83 rfl (by decide) (by decide) v3 (l0.take i) [] _ _ _ (fun k => k ≠ g ∧ some k ≠ w1.ownBlock ∧ some k ≠ p0.ownBlock ∧ some k ≠ p1.ownBlock) (fun k => (k ≠ g ∧ some k ≠ w1.ownBlock ∧ some k ≠ p0.ownBlock ∧ some k ≠ p1.ownBlock) ∧ k < W.heap.size) rfl rfl R3.out (RR_nil _ _ _ _) (fun _ _ h => h) (fun k hk => ⟨hk.1, ne_new NW.out hk.2⟩) (fun k hk => ⟨(FR.out k (Nat.le_trans BW1.out.size hk)).1, (FR.out k (Nat.le_trans BW1.out.size hk)).2.2⟩) C3.out.low C3.out.low.size (by have := HI.out; have := HW.out; rw [List.length_take]; omega) ?_; intro v4 w4 hR4 hb4 hg4 hat4; have BW2 := Lib.hid (below_two BW1.out hg4 NW.out); have NW2 := Lib.hid (new_two BW1.out NW.out hat4); obtain ⟨A4, k4, hv4⟩ := Kd.R_slice hR4; obtain ⟨n4, hn4⟩ : ∃ n4, n4 = (l0.take i ++ []).length := ⟨_, rfl⟩; rw [← hn4] at hv4; subst hv4; have R4 := Lib.hid hR4; clear hn4 hR4 hb4 hg4 hat4 c13; have C4 := Lib.hid (C.out.below BW2.out); have c13 := C4.out.blk.c12; have z13 := blk_frozen C4.out.blk 12)
      | fail "no arm")
    refine bodyPost_end (results_none rfl _ _ _) rfl ?_
    rw [HDR.out]
    exact ⟨rfl, _, Chan.new0 C.out BW2.out NW2.out R4.out⟩
  · have HD := Lib.hid (fun (w3 : World) (hb : Below W.heap.size W w3) => (show ReadsRow (k83.M w3 w.heap.size (fun k => (k ≠ g ∧ some k ≠ w1.ownBlock ∧ some k ≠ p0.ownBlock ∧ some k ≠ p1.ownBlock) ∧ k < W.heap.size)) k83.sz w3 (some ⟨gw, (i + 1) * 3, none⟩) (l0.length - (i + 1)) (l0.drop (i + 1)) by
      have h := RR_drop (HM.out.imp_ hb (fun _ _ hp => Kd.M_below hp hb)) (i + 1)
      rw [List.length_drop, add0g] at h
      exact h))
    clear hcat
    go_wp2_with (first
      | ((with_reducible refine gate_builtin (b := .append) (xs := #[.tmp 7, .tmp 15]) rfl ?_); at_builtin; refine Kd.R_append_rows k83 (Rr := k83.M W w.heap.size (fun k => (k ≠ g ∧ some k ≠ w1.ownBlock ∧ some k ≠ p0.ownBlock ∧ some k ≠ p1.ownBlock) ∧ k < W.heap.size)) (w0 := w) w.heap.size rfl (.tmp 7) (.tmp 15) 65 83 (.agg #[.int .i64 0, .bool false, .slice none 0 0]) 40 rfl Try.underlying65 info83 rfl (by decide) (by decide) (.slice none 0 0) [] (l0.take i) (some ⟨gw, 0, none⟩) i _ (fun k => k ≠ g ∧ some k ≠ w1.ownBlock ∧ some k ≠ p0.ownBlock ∧ some k ≠ p1.ownBlock) (fun k => (k ≠ g ∧ some k ≠ w1.ownBlock ∧ some k ≠ p0.ownBlock ∧ some k ≠ p1.ownBlock) ∧ k < W.heap.size) rfl rfl (Kd.R_nil _ _ _ _ _) HT.out (fun _ _ h => h) (fun k hk => ⟨hk.1, by simp [Value.ownBlock]⟩) (fun k hk => ⟨(FR.out k hk).1, (FR.out k hk).2.2⟩) C.out.low C.out.low.size (by have := HI.out; have := HW.out; simp only [List.length_nil]; omega) ?_; intro v3 w3 hR3 hb3 hg3 hat3; have BW1 := Lib.hid (below_grown hg3 (Or.inl rfl)); have C3 := Lib.hid (C.out.below BW1.out); have R3 := Lib.hid hR3; have NW := Lib.hid (show v3.ownBlock = none ∨ ∃ b, v3.ownBlock = some b ∧ W.heap.size ≤ b from hat3); clear hR3 hb3 hg3 hat3 c13; have c13 := C3.out.blk.c12)
      | ((with_reducible refine gate_builtin (b := .append) (xs := #[.tmp 17, .tmp 26]) rfl ?_); at_builtin; refine Kd.R_append_rows k83 (Rr := k83.M w3 w.heap.size (fun k => (k ≠ g ∧ some k ≠ w1.ownBlock ∧ some k ≠ p0.ownBlock ∧ some k ≠ p1.ownBlock) ∧ k < W.heap.size)) (w0 := w) w.heap.size rfl (.tmp 17) (.tmp 26) 65 83 (.agg #[.int .i64 0, .bool false, .slice none 0 0]) 40 rfl Try.underlying65 info83 rfl (by decide) (by decide) v3 (l0.take i) (l0.drop (i + 1)) (some ⟨gw, (i + 1) * 3, none⟩) (l0.length - (i + 1)) (cW - (i + 1)) (fun k => k ≠ g ∧ some k ≠ w1.ownBlock ∧ some k ≠ p0.ownBlock ∧ some k ≠ p1.ownBlock) (fun k => (k ≠ g ∧ some k ≠ w1.ownBlock ∧ some k ≠ p0.ownBlock ∧ some k ≠ p1.ownBlock) ∧ k < W.heap.size) rfl rfl R3.out (HD.out w3 BW1.out) (fun _ _ h => h) (fun k hk => ⟨hk.1, ne_new NW.out hk.2⟩) (fun k hk => ⟨(FR.out k (Nat.le_trans BW1.out.size hk)).1, (FR.out k (Nat.le_trans BW1.out.size hk)).2.2⟩) C3.out.low C3.out.low.size (by have := HI.out; have := HW.out; rw [List.length_take]; omega) ?_; intro v4 w4 hR4 hb4 hg4 hat4; have BW2 := Lib.hid (below_two BW1.out hg4 NW.out); have NW2 := Lib.hid (new_two BW1.out NW.out hat4); obtain ⟨A4, k4, hv4⟩ := Kd.R_slice hR4; obtain ⟨n4, hn4⟩ : ∃ n4, n4 = (l0.take i ++ (l0.drop (i + 1))).length := ⟨_, rfl⟩; rw [← hn4] at hv4; subst hv4; have R4 := Lib.hid hR4; clear hn4 hR4 hb4 hg4 hat4 c13; have C4 := Lib.hid (C.out.below BW2.out); have c13 := C4.out.blk.c12; have z13 := blk_frozen C4.out.blk 12)
      | fail "no arm")
    refine bodyPost_end (results_none rfl _ _ _) rfl ?_
    exact ⟨rfl, _, Chan.new0 C.out BW2.out NW2.out R4.out⟩
set_option maxHeartbeats 16000000 in
set_option maxRecDepth 100000 in
theorem loseCh1 (w W : World) (g : Nat) (vo0 vi0 : Value) (x0 : S61) (vo1 vi1 : Value) (x1 : S61) (w0 w1 : Value) (l0 l1 : List S83) (p0 p1 : Value) (r0 r1 : List S39) (now : Int) (h : Chan w W g vo0 vi0 x0 vo1 vi1 x1 w0 w1 l0 l1 p0 p1 r0 r1 now) (i : Nat) (hi : i < l1.length) (hw : l1.length ≤ 1000000) :
    Calls Try.prog 41 #[.pointer (some ⟨g, 0, none⟩), .int .i64 1, .int .i64 i] W fun e W' => e = .returned (.tuple #[]) ∧ ∃ wv, Chan w W' g vo0 vi0 x0 vo1 vi1 x1 w0 wv l0 (l1.take i ++ l1.drop (i + 1)) p0 p1 r0 r1 now := by
  obtain ⟨gw, cW, hvw, _, _, _⟩ := Kd.R_form h.ww1 (by omega)
  subst hvw
  have hcap : l1.length ≤ cW := (Kd.R_reads' h.ww1).2.1
  have FR := Lib.hid (fun k (hk : W.heap.size ≤ k) => h.fresh hk)
  have C := Lib.hid h; have HI := Lib.hid hi; have HW := Lib.hid hw
  have HM := Lib.hid (show ReadsRow (k83.M W w.heap.size (fun k => (k ≠ g ∧ some k ≠ w0.ownBlock ∧ some k ≠ p0.ownBlock ∧ some k ≠ p1.ownBlock) ∧ k < W.heap.size)) k83.sz W (some ⟨gw, 0, none⟩) l1.length l1 by
    obtain ⟨A, c, hv, hc, hr⟩ := OwnRow.reads (Kd.R_bound h.ww1).2
    injection hv with h1 h2 h3
    subst h1
    exact hr.imp_ (Below.refl _ _) (fun _ _ hp => k83.M_mono (fun k hk => ⟨hk.1.1, hk.1.2.2.1⟩) hp))
  have HT := Lib.hid (show ReadsRow (k83.M W w.heap.size (fun k => (k ≠ g ∧ some k ≠ w0.ownBlock ∧ some k ≠ p0.ownBlock ∧ some k ≠ p1.ownBlock) ∧ k < W.heap.size)) k83.sz W (some ⟨gw, 0, none⟩) i (l1.take i) by
    refine ⟨by rw [List.length_take]; omega, by have := hw; omega, fun hp => ?_⟩
    obtain ⟨ad, he, hc⟩ := HM.out.2.2 (by omega)
    refine ⟨ad, he, fun j p hj => hc j p ?_⟩
    rw [List.getElem?_take] at hj
    split at hj
    · exact hj
    · cases hj)
  have i0 : (0 : Int) ≤ (i : Int) := by omega
  have i1 : (i : Int) ≤ (cW : Int) := by omega
  have c13 := C.out.blk.c13
  clear h hi hw
  go_enter Try.func41, Try.ntmps41
  have hwi : wrap64 ((i : Int) + 1) = (i : Int) + 1 := wid (by omega) (by have := HI.out; have := HW.out; omega)
  have i2 : (i : Int) + 1 ≤ (l1.length : Int) := by have := HI.out; omega
  have i3 : (l1.length : Int) ≤ (cW : Int) := by omega
  have hcat : l1.take i ++ l1.drop (i + 1) = l1.take i ++ l1.drop (i + 1) := rfl
  by_cases hk : cW = i + 1
  · have hll : l1.length = i + 1 := by have := HI.out; omega
    have hdr : l1.drop (i + 1) = [] := List.drop_eq_nil_of_le (by omega)
    have HDR := Lib.hid hdr
    have HLL := Lib.hid hll
    clear hcat hdr i3
    subst hk
    go_wp2_with (first
      | ((with_reducible refine gate_builtin (b := .append) (xs := #[.tmp 7, .tmp 15]) rfl ?_); at_builtin; refine Kd.R_append_rows k83 (Rr := k83.M W w.heap.size (fun k => (k ≠ g ∧ some k ≠ w0.ownBlock ∧ some k ≠ p0.ownBlock ∧ some k ≠ p1.ownBlock) ∧ k < W.heap.size)) (w0 := w) w.heap.size rfl (.tmp 7) (.tmp 15) 65 83 (.agg #[.int .i64 0, .bool false, .slice none 0 0]) 40 rfl Try.underlying65 info83 rfl (by decide) (by decide) (.slice none 0 0) [] (l1.take i) (some ⟨gw, 0, none⟩) i _ (fun k => k ≠ g ∧ some k ≠ w0.ownBlock ∧ some k ≠ p0.ownBlock ∧ some k ≠ p1.ownBlock) (fun k => (k ≠ g ∧ some k ≠ w0.ownBlock ∧ some k ≠ p0.ownBlock ∧ some k ≠ p1.ownBlock) ∧ k < W.heap.size) rfl rfl (Kd.R_nil _ _ _ _ _) HT.out (fun _ _ h => h) (fun k hk => ⟨hk.1, by simp [Value.ownBlock]⟩) (fun k hk => ⟨(FR.out k hk).1, (FR.out k hk).2.1, (FR.out k hk).2.2.2⟩) C.out.low C.out.low.size (by have := HI.out; have := HW.out; simp only [List.length_nil]; omega) ?_; intro v3 w3 hR3 hb3 hg3 hat3; have BW1 := Lib.hid (below_grown hg3 (Or.inl rfl)); have C3 := Lib.hid (C.out.below BW1.out); have R3 := Lib.hid hR3; have NW := Lib.hid (show v3.ownBlock = none ∨ ∃ b, v3.ownBlock = some b ∧ W.heap.size ≤ b from hat3); clear hR3 hb3 hg3 hat3 c13; have c13 := C3.out.blk.c13)
      | ((with_reducible refine gate_builtin (b := .append) (xs := #[.tmp 17, .tmp 26]) rfl ?_); at_builtin; refine Kd.R_append_rows k83 (Rr := k83.M w3 w.heap.size (fun k => (k ≠ g ∧ some k ≠ w0.ownBlock ∧ some k ≠ p0.ownBlock ∧ some k ≠ p1.ownBlock) ∧ k < W.heap.size)) (w0 := w) w.heap.size rfl (.tmp 17) (.tmp 26) 65 83 (.agg #[.int .i64 0, .bool false, .slice none 0 0]) 40 rfl Try.underlying65 info83 rfl (by decide) (by decide) v3 (l1.take i) [] _ _ _ (fun k => k ≠ g ∧ some k ≠ w0.ownBlock ∧ some k ≠ p0.ownBlock ∧ some k ≠ p1.ownBlock) (fun k => (k ≠ g ∧ some k ≠ w0.ownBlock ∧ some k ≠ p0.ownBlock ∧ some k ≠ p1.ownBlock) ∧ k < W.heap.size) rfl rfl R3.out (RR_nil _ _ _ _) (fun _ _ h => h) (fun k hk => ⟨hk.1, ne_new NW.out hk.2⟩) (fun k hk => ⟨(FR.out k (Nat.le_trans BW1.out.size hk)).1, (FR.out k (Nat.le_trans BW1.out.size hk)).2.1, (FR.out k (Nat.le_trans BW1.out.size hk)).2.2.2⟩) C3.out.low C3.out.low.size (by have := HI.out; have := HW.out; rw [List.length_take]; omega) ?_; intro v4 w4 hR4 hb4 hg4 hat4; have BW2 := Lib.hid (below_two BW1.out hg4 NW.out); have NW2 := Lib.hid (new_two BW1.out NW.out hat4); obtain ⟨A4, k4, hv4⟩ := Kd.R_slice hR4; obtain ⟨n4, hn4⟩ : ∃ n4, n4 = (l1.take i ++ []).length := ⟨_, rfl⟩; rw [← hn4] at hv4; subst hv4; have R4 := Lib.hid hR4; clear hn4 hR4 hb4 hg4 hat4 c13; have C4 := Lib.hid (C.out.below BW2.out); have c13 := C4.out.blk.c13; have z13 := blk_frozen C4.out.blk 13)
      | fail "no arm")
    refine bodyPost_end (results_none rfl _ _ _) rfl ?_
    rw [HDR.out]
    exact ⟨rfl, _, Chan.new1 C.out BW2.out NW2.out R4.out⟩
  · have HD := Lib.hid (fun (w3 : World) (hb : Below W.heap.size W w3) => (show ReadsRow (k83.M w3 w.heap.size (fun k => (k ≠ g ∧ some k ≠ w0.ownBlock ∧ some k ≠ p0.ownBlock ∧ some k ≠ p1.ownBlock) ∧ k < W.heap.size)) k83.sz w3 (some ⟨gw, (i + 1) * 3, none⟩) (l1.length - (i + 1)) (l1.drop (i + 1)) by
      have h := RR_drop (HM.out.imp_ hb (fun _ _ hp => Kd.M_below hp hb)) (i + 1)
      rw [List.length_drop, add0g] at h
      exact h))
    clear hcat
    go_wp2_with (first
      | ((with_reducible refine gate_builtin (b := .append) (xs := #[.tmp 7, .tmp 15]) rfl ?_); at_builtin; refine Kd.R_append_rows k83 (Rr := k83.M W w.heap.size (fun k => (k ≠ g ∧ some k ≠ w0.ownBlock ∧ some k ≠ p0.ownBlock ∧ some k ≠ p1.ownBlock) ∧ k < W.heap.size)) (w0 := w) w.heap.size rfl (.tmp 7) (.tmp 15) 65 83 (.agg #[.int .i64 0, .bool false, .slice none 0 0]) 40 rfl Try.underlying65 info83 rfl (by decide) (by decide) (.slice none 0 0) [] (l1.take i) (some ⟨gw, 0, none⟩) i _ (fun k => k ≠ g ∧ some k ≠ w0.ownBlock ∧ some k ≠ p0.ownBlock ∧ some k ≠ p1.ownBlock) (fun k => (k ≠ g ∧ some k ≠ w0.ownBlock ∧ some k ≠ p0.ownBlock ∧ some k ≠ p1.ownBlock) ∧ k < W.heap.size) rfl rfl (Kd.R_nil _ _ _ _ _) HT.out (fun _ _ h => h) (fun k hk => ⟨hk.1, by simp [Value.ownBlock]⟩) (fun k hk => ⟨(FR.out k hk).1, (FR.out k hk).2.1, (FR.out k hk).2.2.2⟩) C.out.low C.out.low.size (by have := HI.out; have := HW.out; simp only [List.length_nil]; omega) ?_; intro v3 w3 hR3 hb3 hg3 hat3; have BW1 := Lib.hid (below_grown hg3 (Or.inl rfl)); have C3 := Lib.hid (C.out.below BW1.out); have R3 := Lib.hid hR3; have NW := Lib.hid (show v3.ownBlock = none ∨ ∃ b, v3.ownBlock = some b ∧ W.heap.size ≤ b from hat3); clear hR3 hb3 hg3 hat3 c13; have c13 := C3.out.blk.c13)
      | ((with_reducible refine gate_builtin (b := .append) (xs := #[.tmp 17, .tmp 26]) rfl ?_); at_builtin; refine Kd.R_append_rows k83 (Rr := k83.M w3 w.heap.size (fun k => (k ≠ g ∧ some k ≠ w0.ownBlock ∧ some k ≠ p0.ownBlock ∧ some k ≠ p1.ownBlock) ∧ k < W.heap.size)) (w0 := w) w.heap.size rfl (.tmp 17) (.tmp 26) 65 83 (.agg #[.int .i64 0, .bool false, .slice none 0 0]) 40 rfl Try.underlying65 info83 rfl (by decide) (by decide) v3 (l1.take i) (l1.drop (i + 1)) (some ⟨gw, (i + 1) * 3, none⟩) (l1.length - (i + 1)) (cW - (i + 1)) (fun k => k ≠ g ∧ some k ≠ w0.ownBlock ∧ some k ≠ p0.ownBlock ∧ some k ≠ p1.ownBlock) (fun k => (k ≠ g ∧ some k ≠ w0.ownBlock ∧ some k ≠ p0.ownBlock ∧ some k ≠ p1.ownBlock) ∧ k < W.heap.size) rfl rfl R3.out (HD.out w3 BW1.out) (fun _ _ h => h) (fun k hk => ⟨hk.1, ne_new NW.out hk.2⟩) (fun k hk => ⟨(FR.out k (Nat.le_trans BW1.out.size hk)).1, (FR.out k (Nat.le_trans BW1.out.size hk)).2.1, (FR.out k (Nat.le_trans BW1.out.size hk)).2.2.2⟩) C3.out.low C3.out.low.size (by have := HI.out; have := HW.out; rw [List.length_take]; omega) ?_; intro v4 w4 hR4 hb4 hg4 hat4; have BW2 := Lib.hid (below_two BW1.out hg4 NW.out); have NW2 := Lib.hid (new_two BW1.out NW.out hat4); obtain ⟨A4, k4, hv4⟩ := Kd.R_slice hR4; obtain ⟨n4, hn4⟩ : ∃ n4, n4 = (l1.take i ++ (l1.drop (i + 1))).length := ⟨_, rfl⟩; rw [← hn4] at hv4; subst hv4; have R4 := Lib.hid hR4; clear hn4 hR4 hb4 hg4 hat4 c13; have C4 := Lib.hid (C.out.below BW2.out); have c13 := C4.out.blk.c13; have z13 := blk_frozen C4.out.blk 13)
      | fail "no arm")
    refine bodyPost_end (results_none rfl _ _ _) rfl ?_
    exact ⟨rfl, _, Chan.new1 C.out BW2.out NW2.out R4.out⟩
end Go.Proofs.Ytbfhohpbldadbaa.P

namespace Go.Proofs.Ytbfhohpbldadbaa.P
open Go Go.RowKit Go.Proofs.YtbfhohpbldadbaaW.PrintWords Go.Proofs.YtbfhohpbldadbaaW.PrintLast Go.Proofs.YtbfhohpbldadbaaW.PrintMore
set_option linter.unusedVariables false
set_option linter.unusedSimpArgs false
/-- One direction of the protocol: s sends the batches B to r; F are acknowledged, E are received. -/
structure Dir (s r : S61) (toR toS : List S83) (B : List (List S39)) (off : List S39) (F E : Nat) : Prop where
  f : s.f1 = F
  e : r.f2 = E
  fb : F ≤ B.length
  fe : E = F ∨ (E = F + 1 ∧ F < B.length ∧ s.f5 ≠ -1)
  o : s.f0 = B.drop F
  i : r.f3 = (B.take E).flatten
  off : off = B.flatten
  dat : ∀ b ∈ toR, b.f1 = false → ∃ n : Nat, b.f0 = n ∧ n ≤ F ∧ B[n]? = some b.f2 ∧ (n = F → s.f5 ≠ -1)
  ack : ∀ b ∈ toS, b.f1 = true → ∃ n : Nat, b.f0 = n ∧ n ≤ E ∧ b.f2 = []
  sz : ∀ q ∈ B, 1 ≤ q.length ∧ q.length ≤ 4
/-- What an end keeps to. -/
structure Side (s : S61) (now : Int) : Prop where
  d : s.f5 = -1 ∨ (0 < s.f0.length ∧ 0 ≤ s.f5 ∧ s.f5 ≤ now + 3)
  n : s.f0.length ≤ 64
theorem Dir.sub {s r : S61} {toR toS toR' toS' : List S83} {B : List (List S39)} {off : List S39} {F E : Nat} (h : Dir s r toR toS B off F E) (h1 : ∀ b ∈ toR', b ∈ toR) (h2 : ∀ b ∈ toS', b ∈ toS) : Dir s r toR' toS' B off F E :=
  ⟨h.f, h.e, h.fb, h.fe, h.o, h.i, h.off, fun b hb => h.dat b (h1 b hb), fun b hb => h.ack b (h2 b hb), h.sz⟩
theorem Dir.pre {s r : S61} {toR toS : List S83} {B : List (List S39)} {off : List S39} {F E : Nat} (h : Dir s r toR toS B off F E) : ∃ t, off = r.f3 ++ t := by
  refine ⟨(B.drop E).flatten, ?_⟩
  rw [h.off, h.i, ← List.flatten_append, List.take_append_drop]
/-- Both directions, and the bounds. -/
structure Inv (x0 x1 : S61) (l0 l1 : List S83) (r0 r1 : List S39) (now : Int) (N : Nat) : Prop where
  d0 : ∃ B F E, Dir x0 x1 l1 l0 B r0 F E ∧ B.length ≤ N
  d1 : ∃ B F E, Dir x1 x0 l0 l1 B r1 F E ∧ B.length ≤ N
  s0 : Side x0 now
  s1 : Side x1 now
  now0 : 0 ≤ now
  now1 : now ≤ 10 * N
theorem Inv.swap {x0 x1 : S61} {l0 l1 : List S83} {r0 r1 : List S39} {now : Int} {N : Nat} (h : Inv x0 x1 l0 l1 r0 r1 now N) : Inv x1 x0 l1 l0 r1 r0 now N := ⟨h.d1, h.d0, h.s1, h.s0, h.now0, h.now1⟩
theorem Inv.start : Inv e0 e0 [] [] [] [] 0 0 :=
  ⟨⟨[], 0, 0, ⟨rfl, rfl, Nat.le_refl _, Or.inl rfl, rfl, rfl, rfl, fun b hb => absurd hb (by simp), fun b hb => absurd hb (by simp), fun q hq => absurd hq (by simp)⟩, Nat.le_refl _⟩,
   ⟨[], 0, 0, ⟨rfl, rfl, Nat.le_refl _, Or.inl rfl, rfl, rfl, rfl, fun b hb => absurd hb (by simp), fun b hb => absurd hb (by simp), fun q hq => absurd hq (by simp)⟩, Nat.le_refl _⟩,
   ⟨Or.inl rfl, by decide⟩, ⟨Or.inl rfl, by decide⟩, by decide, by decide⟩
theorem Inv.chk {x0 x1 : S61} {l0 l1 : List S83} {r0 r1 : List S39} {now : Int} {N : Nat} (h : Inv x0 x1 l0 l1 r0 r1 now N) (hN : N ≤ 1000000) : clCheck x0.f0 x0.f1 x0.f2 x0.f5 = 0 := by
  obtain ⟨B, F, E, d, hB⟩ := h.d0
  obtain ⟨B', F', E', d', hB'⟩ := h.d1
  have hE : E' ≤ B'.length := by rcases d'.fe with h | ⟨h, h2, _⟩ <;> have := d'.fb <;> omega
  have hs := h.s0.d
  have hn := h.now1
  refine check_make h.s0.n (fun l hl => ?_) (by rw [d.f]; omega) (by rw [d.f]; have := d.fb; omega) (by rw [d'.e]; omega) (by rw [d'.e]; omega) ?_
  · rw [d.o] at hl
    have := d.sz l (List.mem_of_mem_drop hl)
    omega
  · rcases hs with h | ⟨h1, h2, h3⟩
    · exact Or.inl h
    · exact Or.inr ⟨h1, h2, by omega⟩
/-- Polling. -/
theorem Inv.poll {x0 x1 : S61} {l0 l1 : List S83} {r0 r1 : List S39} {now : Int} {N : Nat} (h : Inv x0 x1 l0 l1 r0 r1 now N) (hN : N ≤ 1000000) :
    ∃ x l, pollF x0 now = (x, l, 0) ∧ Inv x x1 l0 (l1 ++ l) r0 r1 now N ∧ l.length ≤ 2 := by
  have hc := h.chk hN
  have hv : oddT now = false := by have := h.now0; have := h.now1; simp [oddT]; omega
  have he := poll_eq hc hv
  refine ⟨_, _, he, ?_, ?_⟩
  · obtain ⟨B, F, E, d, hB⟩ := h.d0
    obtain ⟨B', F', E', d', hB'⟩ := h.d1
    have hn0 := h.now0
    refine ⟨⟨B, F, E, ⟨d.f, d.e, d.fb, ?_, d.o, d.i, d.off, ?_, d.ack, d.sz⟩, hB⟩, ⟨B', F', E', ⟨d'.f, d'.e, d'.fb, d'.fe, d'.o, d'.i, d'.off, d'.dat, ?_, d'.sz⟩, hB'⟩, ⟨?_, h.s0.n⟩, h.s1, h.now0, h.now1⟩
    · rcases d.fe with h1 | ⟨h1, h2, h3⟩
      · exact Or.inl h1
      · refine Or.inr ⟨h1, h2, ?_⟩
        show (if sendB x0.f0 x0.f5 now = true then now + 3 else x0.f5) ≠ -1
        split
        · omega
        · exact h3
    · intro b hb hf
      show ∃ n : Nat, b.f0 = n ∧ n ≤ F ∧ B[n]? = some b.f2 ∧ (n = F → (if sendB x0.f0 x0.f5 now = true then now + 3 else x0.f5) ≠ -1)
      rcases List.mem_append.1 hb with hb | hb
      · obtain ⟨n, h1, h2, h3, h4⟩ := d.dat b hb hf
        refine ⟨n, h1, h2, h3, fun hx => ?_⟩
        split
        · omega
        · exact h4 hx
      · unfold pollL at hb
        rcases List.mem_append.1 hb with hb | hb
        · split at hb
          · next hs =>
            obtain rfl := List.mem_singleton.1 hb
            refine ⟨F, d.f, Nat.le_refl _, ?_, fun _ => by rw [if_pos hs]; omega⟩
            have hpos : 0 < x0.f0.length := by unfold sendB at hs; simp only [Bool.and_eq_true, decide_eq_true_eq] at hs; exact hs.1
            have : x0.f0[0]? = some (x0.f0.headD []) := by cases hx : x0.f0 with
              | nil => rw [hx] at hpos; exact absurd hpos (Nat.lt_irrefl _)
              | cons a o => rfl
            rw [d.o, List.getElem?_drop, Nat.add_zero] at this
            rw [this, d.o]
          · simp at hb
        · split at hb
          · obtain rfl := List.mem_singleton.1 hb
            cases hf
          · simp at hb
    · intro b hb hf
      rcases List.mem_append.1 hb with hb | hb
      · exact d'.ack b hb hf
      · unfold pollL at hb
        rcases List.mem_append.1 hb with hb | hb
        · split at hb
          · obtain rfl := List.mem_singleton.1 hb
            cases hf
          · simp at hb
        · split at hb
          · obtain rfl := List.mem_singleton.1 hb
            exact ⟨E', d'.e, Nat.le_refl _, rfl⟩
          · simp at hb
    · show (if sendB x0.f0 x0.f5 now = true then now + 3 else x0.f5) = -1 ∨ _
      split
      · next hs =>
        have hpos : 0 < x0.f0.length := by unfold sendB at hs; simp only [Bool.and_eq_true, decide_eq_true_eq] at hs; exact hs.1
        exact Or.inr ⟨hpos, by show (0 : Int) ≤ now + 3; omega, Int.le_refl _⟩
      · next hs =>
        rcases h.s0.d with h1 | ⟨h1, h2, h3⟩
        · exact Or.inl h1
        · exact Or.inr ⟨h1, h2, h3⟩
  · unfold pollL
    rw [List.length_append]
    cases sendB x0.f0 x0.f5 now <;> cases x0.f4 <;> simp
/-- Messages get lost. -/
theorem Inv.lose0 {x0 x1 : S61} {l0 l0' l1 : List S83} {r0 r1 : List S39} {now : Int} {N : Nat} (h : Inv x0 x1 l0 l1 r0 r1 now N) (hs : ∀ b ∈ l0', b ∈ l0) : Inv x0 x1 l0' l1 r0 r1 now N := by
  obtain ⟨B, F, E, d, hB⟩ := h.d0
  obtain ⟨B', F', E', d', hB'⟩ := h.d1
  exact ⟨⟨B, F, E, d.sub (fun b hb => hb) hs, hB⟩, ⟨B', F', E', d'.sub hs (fun b hb => hb), hB'⟩, h.s0, h.s1, h.now0, h.now1⟩
theorem mem_lose {l : List S83} {i : Nat} {b : S83} (hb : b ∈ l.take i ++ l.drop (i + 1)) : b ∈ l := by
  rcases List.mem_append.1 hb with h | h
  · exact List.mem_of_mem_take h
  · exact List.mem_of_mem_drop h
/-- Time goes on. -/
theorem Inv.wait {x0 x1 : S61} {l0 l1 : List S83} {r0 r1 : List S39} {now d : Int} {N : Nat} (h : Inv x0 x1 l0 l1 r0 r1 now N) (h0 : 0 ≤ d) (h1 : d ≤ 10) : Inv x0 x1 l0 l1 r0 r1 (now + d) (N + 1) := by
  obtain ⟨B, F, E, dd, hB⟩ := h.d0
  obtain ⟨B', F', E', d', hB'⟩ := h.d1
  have hn0 := h.now0
  have hn1 := h.now1
  refine ⟨⟨B, F, E, dd, by omega⟩, ⟨B', F', E', d', by omega⟩, ⟨?_, h.s0.n⟩, ⟨?_, h.s1.n⟩, by omega, by omega⟩
  · rcases h.s0.d with h | ⟨h2, h3, h4⟩
    · exact Or.inl h
    · exact Or.inr ⟨h2, h3, by omega⟩
  · rcases h.s1.d with h | ⟨h2, h3, h4⟩
    · exact Or.inl h
    · exact Or.inr ⟨h2, h3, by omega⟩
/-- A batch is offered. -/
theorem Inv.offer {x0 x1 : S61} {l0 l1 : List S83} {r0 r1 : List S39} {now : Int} {N : Nat} (h : Inv x0 x1 l0 l1 r0 r1 now N) (hN : N ≤ 1000000) (q : List S39) (hq1 : 1 ≤ q.length) (hq2 : q.length ≤ 4) :
    (offF x0 q = (z61, 2) ∧ x0.f0.length = 64) ∨ (∃ x, offF x0 q = (x, 0) ∧ Inv x x1 l0 l1 (r0 ++ q) r1 now (N + 1)) := by
  have hc := h.chk hN
  have hsz : sizedB q.length = true := by unfold sizedB; simp only [Bool.and_eq_true, decide_eq_true_eq]; omega
  by_cases h64 : x0.f0.length = 64
  · left
    refine ⟨?_, h64⟩
    unfold offF
    rw [if_neg (by rw [hc]; simp), if_neg (by omega), if_pos (Or.inr h64)]
  · right
    refine ⟨⟨x0.f0 ++ [q], x0.f1, x0.f2, x0.f3, x0.f4, x0.f5⟩, ?_, ?_⟩
    · unfold offF
      rw [if_neg (by rw [hc]; simp), if_neg (by omega), if_neg (by rw [hsz]; simp; exact h64)]
    · obtain ⟨B, F, E, d, hB⟩ := h.d0
      obtain ⟨B', F', E', d', hB'⟩ := h.d1
      have hn := h.s0.n
      have hEB : E ≤ B.length := by rcases d.fe with h | ⟨h, h2, _⟩ <;> have := d.fb <;> omega
      refine ⟨⟨B ++ [q], F, E, ⟨d.f, d.e, by rw [List.length_append]; have := d.fb; omega, ?_, ?_, ?_, ?_, ?_, d.ack, ?_⟩, by rw [List.length_append]; simp; omega⟩, ⟨B', F', E', ⟨d'.f, d'.e, d'.fb, d'.fe, d'.o, d'.i, d'.off, d'.dat, d'.ack, d'.sz⟩, by omega⟩, ⟨?_, ?_⟩, h.s1, h.now0, by have := h.now1; omega⟩
      · rcases d.fe with h1 | ⟨h1, h2, h3⟩
        · exact Or.inl h1
        · exact Or.inr ⟨h1, by rw [List.length_append]; omega, h3⟩
      · show x0.f0 ++ [q] = _
        rw [d.o, List.drop_append_of_le_length d.fb]
      · rw [d.i, List.take_append_of_le_length hEB]
      · rw [d.off, List.flatten_append]
        simp
      · intro b hb hf
        obtain ⟨n, h1, h2, h3, h4⟩ := d.dat b hb hf
        have hlt := (List.getElem?_eq_some_iff.1 h3).1
        exact ⟨n, h1, h2, by rw [List.getElem?_append_left hlt]; exact h3, h4⟩
      · intro p hp
        rcases List.mem_append.1 hp with hp | hp
        · exact d.sz p hp
        · obtain rfl := List.mem_singleton.1 hp
          exact ⟨hq1, hq2⟩
      · rcases h.s0.d with h1 | ⟨h1, h2, h3⟩
        · exact Or.inl h1
        · exact Or.inr ⟨by show 0 < (x0.f0 ++ [q]).length; rw [List.length_append]; omega, h2, h3⟩
      · show (x0.f0 ++ [q]).length ≤ 64
        rw [List.length_append, List.length_singleton]
        omega
theorem Dir.eb {s r : S61} {toR toS : List S83} {B : List (List S39)} {off : List S39} {F E : Nat} (h : Dir s r toR toS B off F E) : F ≤ E ∧ E ≤ B.length := by
  rcases h.fe with h1 | ⟨h1, h2, _⟩ <;> have := h.fb <;> omega
/-- A message is delivered to the end 0. -/
theorem Inv.deliver {x0 x1 : S61} {l0 l1 : List S83} {r0 r1 : List S39} {now : Int} {N : Nat} (h : Inv x0 x1 l0 l1 r0 r1 now N) (hN : N ≤ 1000000) (b : S83) (hb : b ∈ l0) : ∃ x, recvF x0 b now = (x, 0) ∧ Inv x x1 l0 l1 r0 r1 now N := by
  have hc := h.chk hN
  have hv : oddT now = false := by have := h.now0; have := h.now1; simp [oddT]; omega
  obtain ⟨B, F, E, d, hB⟩ := h.d0
  obtain ⟨B', F', E', d', hB'⟩ := h.d1
  have he := d.eb
  have he' := d'.eb
  cases hf : b.f1
  · obtain ⟨n, h1, h2, h3, h4⟩ := d'.dat b hb hf
    have hlt := (List.getElem?_eq_some_iff.1 h3).1
    have hsz := d'.sz b.f2 (by rw [← (List.getElem?_eq_some_iff.1 h3).2]; exact List.getElem_mem hlt)
    have hval : ¬ (oddT now = true ∨ oddT b.f0 = true ∨ validBatch b = false) := by
      rw [hv, h1]
      intro hx
      rcases hx with hx | hx | hx
      · cases hx
      · simp [oddT] at hx; omega
      · unfold validBatch at hx; rw [hf] at hx; simp only [Bool.false_eq_true, if_false, sizedB, Bool.and_eq_false_iff, decide_eq_false_iff_not] at hx; omega
    rw [recv_eq hc hval, hf, if_neg (by simp)]
    unfold accF
    rw [d'.e, h1, if_neg (show ¬ ((E' : Int) < (n : Int)) by omega)]
    by_cases hn : (n : Int) = (E' : Int)
    · rw [if_pos hn]
      have hnF : n = F' := by omega
      refine ⟨_, rfl, ⟨B, F, E, ⟨d.f, d.e, d.fb, d.fe, d.o, d.i, d.off, d.dat, d.ack, d.sz⟩, hB⟩, ⟨B', F', E' + 1, ⟨d'.f, ?_, d'.fb, Or.inr ⟨by omega, by omega, h4 hnF⟩, d'.o, ?_, d'.off, d'.dat, ?_, d'.sz⟩, hB'⟩, ⟨h.s0.d, h.s0.n⟩, h.s1, h.now0, h.now1⟩
      · show (E' : Int) + 1 = ((E' + 1 : Nat) : Int)
        omega
      · show x0.f3 ++ b.f2 = _
        have hx : B'[E']? = some b.f2 := by rw [← h3]; congr 1; omega
        rw [List.take_add_one, hx, d'.i, List.flatten_append]
        simp
      · intro q hq hqf
        obtain ⟨m, m1, m2, m3⟩ := d'.ack q hq hqf
        exact ⟨m, m1, by omega, m3⟩
    · rw [if_neg hn]
      exact ⟨_, rfl, ⟨B, F, E, ⟨d.f, d.e, d.fb, d.fe, d.o, d.i, d.off, d.dat, d.ack, d.sz⟩, hB⟩, ⟨B', F', E', ⟨d'.f, rfl, d'.fb, d'.fe, d'.o, d'.i, d'.off, d'.dat, d'.ack, d'.sz⟩, hB'⟩, ⟨h.s0.d, h.s0.n⟩, h.s1, h.now0, h.now1⟩
  · obtain ⟨n, h1, h2, h3⟩ := d.ack b hb hf
    have hval : ¬ (oddT now = true ∨ oddT b.f0 = true ∨ validBatch b = false) := by
      rw [hv, h1]
      intro hx
      rcases hx with hx | hx | hx
      · cases hx
      · simp [oddT] at hx; omega
      · unfold validBatch at hx; rw [hf, h3] at hx; simp at hx
    rw [recv_eq hc hval, hf, if_pos rfl]
    unfold ackF
    rw [d.f, h1]
    by_cases hn : (n : Int) ≤ (F : Int)
    · rw [if_pos hn]
      exact ⟨_, rfl, h⟩
    · rw [if_neg hn]
      rcases d.fe with g1 | ⟨g1, g2, g3⟩
      · omega
      · rw [if_neg (fun hx => hx.elim (fun hx => by omega) g3)]
        refine ⟨_, rfl, ⟨B, F + 1, E, ⟨?_, d.e, by omega, Or.inl g1, ?_, d.i, d.off, ?_, d.ack, d.sz⟩, hB⟩, ⟨B', F', E', ⟨d'.f, d'.e, d'.fb, d'.fe, d'.o, d'.i, d'.off, d'.dat, d'.ack, d'.sz⟩, hB'⟩, ⟨Or.inl rfl, ?_⟩, h.s1, h.now0, h.now1⟩
        · show (F : Int) + 1 = ((F + 1 : Nat) : Int)
          omega
        · show x0.f0.drop 1 = _
          rw [d.o, List.drop_drop]
        · intro q hq hqf
          obtain ⟨m, m1, m2, m3, m4⟩ := d.dat q hq hqf
          exact ⟨m, m1, by omega, m3, fun hx => absurd hx (by omega)⟩
        · show (x0.f0.drop 1).length ≤ 64
          rw [List.length_drop]
          have := h.s0.n
          omega
end Go.Proofs.Ytbfhohpbldadbaa.P

namespace Go.Proofs.Ytbfhohpbldadbaa.P
open Go Go.RowKit Go.Proofs.YtbfhohpbldadbaaW.PrintWords Go.Proofs.YtbfhohpbldadbaaW.PrintLast Go.Proofs.YtbfhohpbldadbaaW.PrintMore
set_option linter.unusedVariables false
set_option linter.unusedSimpArgs false
section
variable {w W W' : World} {g : Nat} {vo0 vi0 : Value} {x0 : S61} {vo1 vi1 : Value} {x1 : S61} {w0 w1 : Value} {l0 l1 : List S83} {p0 p1 : Value} {r0 r1 : List S39} {now : Int}
/-- The row of the records offered at 0 has grown, and its cell is written. -/
theorem Chan.off0 (h : Chan w W g vo0 vi0 x0 vo1 vi1 x1 w0 w1 l0 l1 p0 p1 r0 r1 now) {v1 : Value} {l : List S39} (hb : Below w.heap.size w W') (hg : W.grownBy W' p0.ownBlock) (hat : v1.ownBlock = p0.ownBlock ∨ ∃ b, v1.ownBlock = some b ∧ W.heap.size ≤ b)
    (hR : Kd.R k39 39 W' w.heap.size (fun k => k ≠ g ∧ some k ≠ w0.ownBlock ∧ some k ≠ w1.ownBlock ∧ some k ≠ p1.ownBlock) v1 l) : Chan w (W'.setCell ⟨g, 14, none⟩ v1) g vo0 vi0 x0 vo1 vi1 x1 w0 w1 l0 l1 v1 p1 l r1 now := by
  have hne : some g ≠ p0.ownBlock := fun e => (h.pp0.1 g e.symm).1 rfl
  have hblk : ChB W' g vo0 vi0 x0 vo1 vi1 x1 w0 w1 p0 p1 now := blk_grown h.blk hg hne
  have nr : ∀ k, NR g w0 w1 p0 p1 k → k < W.heap.size → NR g w0 w1 v1 p1 k := fun k hk hlt => ⟨hk.1, hk.2.1, hk.2.2.1, ne_after hat hlt hk.2.2.2.1, hk.2.2.2.2⟩
  refine ⟨below_set (g := g) (w := w) (W := W') hb (Nat.le_refl _) h.ge 14 v1, h.ge, blk_put hblk 14 v1 rfl, ?_, ?_, ?_, ?_, ?_, ?_, ?_, ?_⟩
  · exact Kd.V_far (p := ⟨g, 14, none⟩) (V_next h.o0 hg (fun k hk => hk.2.2.2.1) nr) (fun k hk => hk.1) v1
  · exact Kd.V_far (p := ⟨g, 14, none⟩) (V_next h.i0 hg (fun k hk => hk.2.2.2.1) nr) (fun k hk => hk.1) v1
  · exact Kd.V_far (p := ⟨g, 14, none⟩) (V_next h.o1 hg (fun k hk => hk.2.2.2.1) nr) (fun k hk => hk.1) v1
  · exact Kd.V_far (p := ⟨g, 14, none⟩) (V_next h.i1 hg (fun k hk => hk.2.2.2.1) nr) (fun k hk => hk.1) v1
  · exact Kd.R_far (p := ⟨g, 14, none⟩) (R_next h.ww0 hg (fun k hk => hk.2.2.1) (fun k hk hlt => ⟨hk.1, hk.2.1, ne_after hat hlt hk.2.2.1, hk.2.2.2⟩)) (fun k hk => hk.1) v1
  · exact Kd.R_far (p := ⟨g, 14, none⟩) (R_next h.ww1 hg (fun k hk => hk.2.2.1) (fun k hk hlt => ⟨hk.1, hk.2.1, ne_after hat hlt hk.2.2.1, hk.2.2.2⟩)) (fun k hk => hk.1) v1
  · exact Kd.R_far (p := ⟨g, 14, none⟩) (hR) (fun k hk => hk.1) v1
  · exact Kd.R_far (p := ⟨g, 14, none⟩) (R_next h.pp1 hg (fun k hk => hk.2.2.2) (fun k hk hlt => ⟨hk.1, hk.2.1, hk.2.2.1, ne_after hat hlt hk.2.2.2⟩)) (fun k hk => hk.1) v1
/-- The row of the records offered at 1 has grown, and its cell is written. -/
theorem Chan.off1 (h : Chan w W g vo0 vi0 x0 vo1 vi1 x1 w0 w1 l0 l1 p0 p1 r0 r1 now) {v1 : Value} {l : List S39} (hb : Below w.heap.size w W') (hg : W.grownBy W' p1.ownBlock) (hat : v1.ownBlock = p1.ownBlock ∨ ∃ b, v1.ownBlock = some b ∧ W.heap.size ≤ b)
    (hR : Kd.R k39 39 W' w.heap.size (fun k => k ≠ g ∧ some k ≠ w0.ownBlock ∧ some k ≠ w1.ownBlock ∧ some k ≠ p0.ownBlock) v1 l) : Chan w (W'.setCell ⟨g, 15, none⟩ v1) g vo0 vi0 x0 vo1 vi1 x1 w0 w1 l0 l1 p0 v1 r0 l now := by
  have hne : some g ≠ p1.ownBlock := fun e => (h.pp1.1 g e.symm).1 rfl
  have hblk : ChB W' g vo0 vi0 x0 vo1 vi1 x1 w0 w1 p0 p1 now := blk_grown h.blk hg hne
  have nr : ∀ k, NR g w0 w1 p0 p1 k → k < W.heap.size → NR g w0 w1 p0 v1 k := fun k hk hlt => ⟨hk.1, hk.2.1, hk.2.2.1, hk.2.2.2.1, ne_after hat hlt hk.2.2.2.2⟩
  refine ⟨below_set (g := g) (w := w) (W := W') hb (Nat.le_refl _) h.ge 15 v1, h.ge, blk_put hblk 15 v1 rfl, ?_, ?_, ?_, ?_, ?_, ?_, ?_, ?_⟩
  · exact Kd.V_far (p := ⟨g, 15, none⟩) (V_next h.o0 hg (fun k hk => hk.2.2.2.2) nr) (fun k hk => hk.1) v1
  · exact Kd.V_far (p := ⟨g, 15, none⟩) (V_next h.i0 hg (fun k hk => hk.2.2.2.2) nr) (fun k hk => hk.1) v1
  · exact Kd.V_far (p := ⟨g, 15, none⟩) (V_next h.o1 hg (fun k hk => hk.2.2.2.2) nr) (fun k hk => hk.1) v1
  · exact Kd.V_far (p := ⟨g, 15, none⟩) (V_next h.i1 hg (fun k hk => hk.2.2.2.2) nr) (fun k hk => hk.1) v1
  · exact Kd.R_far (p := ⟨g, 15, none⟩) (R_next h.ww0 hg (fun k hk => hk.2.2.2) (fun k hk hlt => ⟨hk.1, hk.2.1, hk.2.2.1, ne_after hat hlt hk.2.2.2⟩)) (fun k hk => hk.1) v1
  · exact Kd.R_far (p := ⟨g, 15, none⟩) (R_next h.ww1 hg (fun k hk => hk.2.2.2) (fun k hk hlt => ⟨hk.1, hk.2.1, hk.2.2.1, ne_after hat hlt hk.2.2.2⟩)) (fun k hk => hk.1) v1
  · exact Kd.R_far (p := ⟨g, 15, none⟩) (R_next h.pp0 hg (fun k hk => hk.2.2.2) (fun k hk hlt => ⟨hk.1, hk.2.1, hk.2.2.1, ne_after hat hlt hk.2.2.2⟩)) (fun k hk => hk.1) v1
  · exact Kd.R_far (p := ⟨g, 15, none⟩) (hR) (fun k hk => hk.1) v1
/-- The time is written. -/
theorem Chan.time (h : Chan w W g vo0 vi0 x0 vo1 vi1 x1 w0 w1 l0 l1 p0 p1 r0 r1 now) (t : Int) : Chan w (W.setCell ⟨g, 16, none⟩ (.int .i64 t)) g vo0 vi0 x0 vo1 vi1 x1 w0 w1 l0 l1 p0 p1 r0 r1 t :=
  ⟨below_set (g := g) (w := w) (W := W) h.low (Nat.le_refl _) h.ge 16 _, h.ge, blk_put h.blk 16 _ rfl, Kd.V_far (p := ⟨g, 16, none⟩) h.o0 (fun k hk => hk.1) _, Kd.V_far (p := ⟨g, 16, none⟩) h.i0 (fun k hk => hk.1) _, Kd.V_far (p := ⟨g, 16, none⟩) h.o1 (fun k hk => hk.1) _, Kd.V_far (p := ⟨g, 16, none⟩) h.i1 (fun k hk => hk.1) _,
    Kd.R_far (p := ⟨g, 16, none⟩) h.ww0 (fun k hk => hk.1) _, Kd.R_far (p := ⟨g, 16, none⟩) h.ww1 (fun k hk => hk.1) _, Kd.R_far (p := ⟨g, 16, none⟩) h.pp0 (fun k hk => hk.1) _, Kd.R_far (p := ⟨g, 16, none⟩) h.pp1 (fun k hk => hk.1) _⟩
end
end Go.Proofs.Ytbfhohpbldadbaa.P

namespace Go.Proofs.Ytbfhohpbldadbaa.P
open Go Go.RowKit Go.Proofs.YtbfhohpbldadbaaW.PrintWords Go.Proofs.YtbfhohpbldadbaaW.PrintLast Go.Proofs.YtbfhohpbldadbaaW.PrintMore
set_option linter.unusedVariables false
set_option linter.unusedSimpArgs false
/-- The cells of an Op. -/
def OBlk (w : World) (g : Nat) (k e s t p : Int) : Prop := w.heap[g]? = some (.cells #[.int .i64 k, .int .i64 e, .int .i64 s, .int .i64 t, .int .i64 p] 75 (0, 0))
section
variable {w w' : World} {g : Nat} {k e s t p : Int}
theorem OBlk.c0 (h : OBlk w g k e s t p) : w.cell? ⟨g, 0, none⟩ = some (.int .i64 k) := (cell_of_row w g 0 _ 75 (0, 0) h).trans rfl
theorem OBlk.c1 (h : OBlk w g k e s t p) : w.cell? ⟨g, 1, none⟩ = some (.int .i64 e) := (cell_of_row w g 1 _ 75 (0, 0) h).trans rfl
theorem OBlk.c2 (h : OBlk w g k e s t p) : w.cell? ⟨g, 2, none⟩ = some (.int .i64 s) := (cell_of_row w g 2 _ 75 (0, 0) h).trans rfl
theorem OBlk.c3 (h : OBlk w g k e s t p) : w.cell? ⟨g, 3, none⟩ = some (.int .i64 t) := (cell_of_row w g 3 _ 75 (0, 0) h).trans rfl
theorem OBlk.c4 (h : OBlk w g k e s t p) : w.cell? ⟨g, 4, none⟩ = some (.int .i64 p) := (cell_of_row w g 4 _ 75 (0, 0) h).trans rfl
theorem OBlk.below (h : OBlk w g k e s t p) (hb : Below w.heap.size w w') : OBlk w' g k e s t p := (hb.block g (heap_lt h)).trans h
theorem OBlk.new (w : World) (k e s t p : Int) : OBlk (w.alloc (.cells #[.int .i64 k, .int .i64 e, .int .i64 s, .int .i64 t, .int .i64 p] 75)) w.heap.size k e s t p := heap_alloc_new w _
end
theorem and_1 (a : Int) : 0 ≤ Go.bits .and .i64 a 1 ∧ Go.bits .and .i64 a 1 ≤ 1 := by
  have h : (BitVec.ofInt 64 a &&& BitVec.ofInt 64 1).toNat < 2 := by
    rw [BitVec.toNat_and]
    have e : (BitVec.ofInt 64 1).toNat = 2 ^ 1 - 1 := by decide
    rw [e, Nat.and_two_pow_sub_one_eq_mod]
    omega
  show 0 ≤ IntKind.wrap .i64 ((BitVec.ofInt 64 a &&& BitVec.ofInt 64 1).toNat : Int) ∧ IntKind.wrap .i64 ((BitVec.ofInt 64 a &&& BitVec.ofInt 64 1).toNat : Int) ≤ 1
  rw [i64_w]
  generalize (BitVec.ofInt 64 a &&& BitVec.ofInt 64 1).toNat = q at h
  unfold wrap64
  omega
theorem and_2b (a : Int) : 0 ≤ Go.bits .and .i64 a 3 ∧ Go.bits .and .i64 a 3 ≤ 3 := by
  have h : (BitVec.ofInt 64 a &&& BitVec.ofInt 64 3).toNat < 4 := by
    rw [BitVec.toNat_and]
    have e : (BitVec.ofInt 64 3).toNat = 2 ^ 2 - 1 := by decide
    rw [e, Nat.and_two_pow_sub_one_eq_mod]
    omega
  show 0 ≤ IntKind.wrap .i64 ((BitVec.ofInt 64 a &&& BitVec.ofInt 64 3).toNat : Int) ∧ IntKind.wrap .i64 ((BitVec.ofInt 64 a &&& BitVec.ofInt 64 3).toNat : Int) ≤ 3
  rw [i64_w]
  generalize (BitVec.ofInt 64 a &&& BitVec.ofInt 64 3).toNat = q at h
  unfold wrap64
  omega
theorem and_3b (a : Int) : 0 ≤ Go.bits .and .i64 a 7 ∧ Go.bits .and .i64 a 7 ≤ 7 := by
  have h : (BitVec.ofInt 64 a &&& BitVec.ofInt 64 7).toNat < 8 := by
    rw [BitVec.toNat_and]
    have e : (BitVec.ofInt 64 7).toNat = 2 ^ 3 - 1 := by decide
    rw [e, Nat.and_two_pow_sub_one_eq_mod]
    omega
  show 0 ≤ IntKind.wrap .i64 ((BitVec.ofInt 64 a &&& BitVec.ofInt 64 7).toNat : Int) ∧ IntKind.wrap .i64 ((BitVec.ofInt 64 a &&& BitVec.ofInt 64 7).toNat : Int) ≤ 7
  rw [i64_w]
  generalize (BitVec.ofInt 64 a &&& BitVec.ofInt 64 7).toNat = q at h
  unfold wrap64
  omega
theorem and_16b (a : Int) : 0 ≤ Go.bits .and .i64 a 65535 ∧ Go.bits .and .i64 a 65535 ≤ 65535 := by
  have h : (BitVec.ofInt 64 a &&& BitVec.ofInt 64 65535).toNat < 65536 := by
    rw [BitVec.toNat_and]
    have e : (BitVec.ofInt 64 65535).toNat = 2 ^ 16 - 1 := by decide
    rw [e, Nat.and_two_pow_sub_one_eq_mod]
    omega
  show 0 ≤ IntKind.wrap .i64 ((BitVec.ofInt 64 a &&& BitVec.ofInt 64 65535).toNat : Int) ∧ IntKind.wrap .i64 ((BitVec.ofInt 64 a &&& BitVec.ofInt 64 65535).toNat : Int) ≤ 65535
  rw [i64_w]
  generalize (BitVec.ofInt 64 a &&& BitVec.ofInt 64 65535).toNat = q at h
  unfold wrap64
  omega
theorem Dir.small {s r : S61} {toR toS : List S83} {B : List (List S39)} {off : List S39} {F E N : Nat} (h : Dir s r toR toS B off F E) (hN : B.length ≤ N) : r.f3.length ≤ 4 * N ∧ off.length ≤ 4 * N := by
  obtain ⟨t, ht⟩ := h.pre
  have h1 : ∀ (B : List (List S39)), (∀ q ∈ B, 1 ≤ q.length ∧ q.length ≤ 4) → B.flatten.length ≤ 4 * B.length := by
    intro B
    induction B with
    | nil => intro _; simp
    | cons a B ih =>
      intro hB
      have h2 := ih (fun q hq => hB q (List.mem_cons_of_mem _ hq))
      have h3 := hB a (by simp)
      rw [List.flatten_cons, List.length_append, List.length_cons]
      omega
  have h2 := h1 B h.sz
  rw [← h.off] at h2
  have h3 : off.length = r.f3.length + t.length := by rw [ht, List.length_append]
  omega
/-- Some channel that keeps to the protocol. -/
def ChInv (w W : World) (g : Nat) (n : Nat) : Prop :=
  ∃ vo0 vi0 x0 vo1 vi1 x1 w0 w1 l0 l1 p0 p1 r0 r1 now, Chan w W g vo0 vi0 x0 vo1 vi1 x1 w0 w1 l0 l1 p0 p1 r0 r1 now ∧ Inv x0 x1 l0 l1 r0 r1 now n ∧ l0.length ≤ 2 * n ∧ l1.length ≤ 2 * n
set_option maxHeartbeats 16000000 in
set_option maxRecDepth 100000 in
/-- An operation that polls. -/
theorem step_one (w W : World) (g n : Nat) (hn : n ≤ 1000) (h : ChInv w W g n) (e s t p : Int) :
    Calls Try.prog 38 #[.pointer (some ⟨g, 0, none⟩), .agg #[.int .i64 1, .int .i64 e, .int .i64 s, .int .i64 t, .int .i64 p]] W fun e W' => e = .returned (.bool true) ∧ ChInv w W' g (n + 1) := by
  obtain ⟨vo0, vi0, x0, vo1, vi1, x1, w0, w1, l0, l1, p0, p1, r0, r1, now, hC, hI, hl0, hl1⟩ := h
  have C := Lib.hid hC; have I := Lib.hid hI; have L0 := Lib.hid hl0; have L1 := Lib.hid hl1
  clear hC hI hl0 hl1
  obtain ⟨ee, hee⟩ : ∃ ee, ee = Go.bits .and .i64 e 1 := ⟨_, rfl⟩
  have h01 := and_1 e
  rw [← hee] at h01
  have E01 := Lib.hid h01; have HEE := Lib.hid hee
  clear h01 hee
  go_enter Try.func38, Try.ntmps38
  have O := Lib.hid (OBlk.new W 1 e s t p)
  have o0 := O.out.c0; have o1 := O.out.c1
  go_wp2_with fail
  rw [← HEE.out]
  obtain ⟨tO, htO⟩ : ∃ tO, tO = W.heap.size := ⟨_, rfl⟩
  rw [← htO] at O
  rw [← htO]
  replace C := Lib.hid (C.out.below (below_one W (.cells #[.int .i64 1, .int .i64 e, .int .i64 s, .int .i64 t, .int .i64 p] 75)))
  clear htO o0 o1
  generalize W.alloc (.cells #[.int .i64 1, .int .i64 e, .int .i64 s, .int .i64 t, .int .i64 p] 75) = w2 at C O ⊢
  replace C := Lib.hid (C.out.below (below_drew (Below.refl _ _)))
  replace O := Lib.hid (O.out.below (below_drew (Below.refl _ _)))
  refine start_ (n := 12) (S := fun w' => w'.cell? ⟨g, 16, none⟩ = some (.int .i64 now) ∧ w'.cell? ⟨tO, 3, none⟩ = some (.int .i64 t)) (ds := [11]) #[false, false, false, false, false, false, false, false, false, false, false, false] (by kernel_rfl) rfl rfl ⟨C.out.blk.c16, O.out.c3⟩ (fun hHeld => ?_)
  generalize w2.drew = w3 at C O hHeld ⊢
  refine pure_ (i := 0) (N := some 86) (v := ?_) (a' := ?_) #[true, false, false, false, false, false, false, false, false, false, false, false] rfl rfl (by kernel_rfl) (fun _ _ _ h => h) (Or.inl ⟨by rfl, ?_⟩) ?_ ?_
  rotate_left
  · intro w'
    go_simp
    with_reducible rfl
  rotate_left
  · simp only [Act.put, List.setIfInBounds_toArray, List.set_cons_zero, List.set_cons_succ, i64_w, i32_w]
    rfl
  refine pure_ (i := 1) (N := some 87) (v := ?_) (a' := ?_) #[true, true, false, false, false, false, false, false, false, false, false, false] rfl rfl (by kernel_rfl) (fun _ _ _ h => h) (Or.inl ⟨by rfl, ?_⟩) ?_ ?_
  rotate_left
  · intro w'
    go_simp
    with_reducible rfl
  rotate_left
  · simp only [Act.put, List.setIfInBounds_toArray, List.set_cons_zero, List.set_cons_succ, i64_w, i32_w]
    rfl
  refine pure_ (i := 2) (N := some 88) (v := ?_) (a' := ?_) #[true, true, true, false, false, false, false, false, false, false, false, false] rfl rfl (by kernel_rfl) (fun _ _ _ h => h) (Or.inl ⟨by rfl, ?_⟩) ?_ ?_
  rotate_left
  · intro w'
    go_simp
    with_reducible rfl
  rotate_left
  · simp only [Act.put, List.setIfInBounds_toArray, List.set_cons_zero, List.set_cons_succ, i64_w, i32_w]
    rfl
  refine pure_ (i := 3) (N := some 89) (v := ?_) (a' := ?_) #[true, true, true, true, false, false, false, false, false, false, false, false] rfl rfl (by kernel_rfl) (fun _ _ _ h => h) (Or.inl ⟨by rfl, ?_⟩) ?_ ?_
  rotate_left
  · intro w'
    go_simp
    with_reducible rfl
  rotate_left
  · simp only [Act.put, List.setIfInBounds_toArray, List.set_cons_zero, List.set_cons_succ, i64_w, i32_w]
    rfl
  refine pure_ (i := 5) (N := some 91) (v := ?_) (a' := ?_) #[true, true, true, true, false, true, false, false, false, false, false, false] rfl rfl (by kernel_rfl) (fun _ _ _ h => h) (Or.inl ⟨by rfl, ?_⟩) ?_ ?_
  rotate_left
  · intro w'
    go_simp
    with_reducible rfl
  rotate_left
  · simp only [Act.put, List.setIfInBounds_toArray, List.set_cons_zero, List.set_cons_succ, i64_w, i32_w]
    rfl
  refine take_ (i := 4) (N := some 90) (v := ?_) (a' := ?_) #[true, true, true, true, true, true, false, false, false, false, false, false] rfl rfl (by kernel_rfl) (fun _ _ _ h => h) (Or.inl ⟨by rfl, ?_⟩) hHeld ?_ ?_
  rotate_left
  · rintro w' ⟨s0, s1⟩
    go_simp
    with_reducible rfl
  rotate_left
  · simp only [Act.put, List.setIfInBounds_toArray, List.set_cons_zero, List.set_cons_succ, i64_w, i32_w]
    rfl
  refine take_ (i := 6) (N := some 92) (v := ?_) (a' := ?_) #[true, true, true, true, true, true, true, false, false, false, false, false] rfl rfl (by kernel_rfl) (fun _ _ _ h => h) (Or.inl ⟨by rfl, ?_⟩) hHeld ?_ ?_
  rotate_left
  · rintro w' ⟨s0, s1⟩
    go_simp
    with_reducible rfl
  rotate_left
  · simp only [Act.put, List.setIfInBounds_toArray, List.set_cons_zero, List.set_cons_succ, i64_w, i32_w]
    rfl
  refine pure_ (i := 7) (N := some 93) (v := ?_) (a' := ?_) #[true, true, true, true, true, true, true, true, false, false, false, false] rfl rfl (by kernel_rfl) (fun _ _ _ h => h) (Or.inl ⟨by rfl, ?_⟩) ?_ ?_
  rotate_left
  · intro w'
    go_simp
    with_reducible rfl
  rotate_left
  · simp only [Act.put, List.setIfInBounds_toArray, List.set_cons_zero, List.set_cons_succ, i64_w, i32_w]
    rfl
  refine pure_ (i := 8) (N := some 94) (v := ?_) (a' := ?_) #[true, true, true, true, true, true, true, true, true, false, false, false] rfl rfl (by kernel_rfl) (fun _ _ _ h => h) (Or.inl ⟨by rfl, ?_⟩) ?_ ?_
  rotate_left
  · intro w'
    go_simp
    with_reducible rfl
  rotate_left
  · simp only [Act.put, List.setIfInBounds_toArray, List.set_cons_zero, List.set_cons_succ, i64_w, i32_w]
    rfl
  refine pure_ (i := 9) (N := some 95) (v := ?_) (a' := ?_) #[true, true, true, true, true, true, true, true, true, true, false, false] rfl rfl (by kernel_rfl) (fun _ _ _ h => h) (Or.inl ⟨by rfl, ?_⟩) ?_ ?_
  rotate_left
  · intro w'
    go_simp
    with_reducible rfl
  rotate_left
  · simp only [Act.put, List.setIfInBounds_toArray, List.set_cons_zero, List.set_cons_succ, i64_w, i32_w]
    rfl
  refine pure_ (i := 10) (N := some 96) (v := ?_) (a' := ?_) #[true, true, true, true, true, true, true, true, true, true, true, false] rfl rfl (by kernel_rfl) (fun _ _ _ h => h) (Or.inl ⟨by rfl, ?_⟩) ?_ ?_
  rotate_left
  · intro w'
    go_simp
    with_reducible rfl
  rotate_left
  · simp only [Act.put, List.setIfInBounds_toArray, List.set_cons_zero, List.set_cons_succ, i64_w, i32_w]
    rfl
  refine last_ (i := 11) (N := none) #[true, true, true, true, true, true, true, true, true, true, true, true] rfl rfl (by kernel_rfl) (by decide) (fun K hK => ?_)
  have q1 := C.out.blk.c16; have q2 := blk_frozen C.out.blk 16
  refine skip_ (w1 := ?_) (by rfl) rfl ?_ ?_
  rotate_left
  · go_simp
    rfl
  refine hK.out _ _ ?_
  clear hK K
  refine done_ (by kernel_rfl) ?_

  replace C := Lib.hid (C.out.time (wrap64 (now + Go.bits .and .i64 t 7)))
  have h7 := and_3b t
  have hnow := I.out.now0
  have hnow1 := I.out.now1
  have hwt : wrap64 (now + Go.bits .and .i64 t 7) = now + Go.bits .and .i64 t 7 := wid (by omega) (by omega)
  have I2 := Lib.hid (I.out.wait h7.1 (by omega))
  rw [← hwt] at I2
  clear h7 hnow hnow1 hwt O hHeld
  generalize w3.setCell ⟨g, 16, none⟩ (.int .i64 (wrap64 (now + Go.bits .and .i64 t 7))) = w4 at C ⊢
  generalize wrap64 (now + Go.bits .and .i64 t 7) = now2 at C I2
  have hor : ee = 0 ∨ ee = 1 := by have := E01.out; omega
  have HN := Lib.hid hn
  rcases hor with rfl | rfl
  · go_wp2_with fail
    obtain ⟨x, l, hq, hI, hl⟩ := I2.out.poll (by omega)
    obtain ⟨B1, F1, E1, d1, hB1⟩ := I2.out.d1
    refine (pollCh0 w w4 g _ _ _ _ _ _ _ _ _ _ _ _ _ _ _ C.out (by have := (d1.small hB1).1; omega) (by have := L1.out; omega) x l 0 hq hl).mono ?_
    rintro e' w5 (⟨hne, _⟩ | ⟨_, rfl, vo, vi, wv, hC⟩)
    · exact absurd rfl hne
    have C5 := Lib.hid hC; have I5 := Lib.hid hI; have LL := Lib.hid hl
    clear hC hI hl hq d1 hB1
    go_wp2_with fail
    go_ret
    exact ⟨rfl, _, _, _, _, _, _, _, _, _, _, _, _, _, _, _, C5.out, I5.out, by have := L0.out; omega, by rw [List.length_append]; have := L1.out; have := LL.out; omega⟩
  · go_wp2_with fail
    obtain ⟨x, l, hq, hI, hl⟩ := I2.out.swap.poll (by omega)
    obtain ⟨B1, F1, E1, d1, hB1⟩ := I2.out.d0
    refine (pollCh1 w w4 g _ _ _ _ _ _ _ _ _ _ _ _ _ _ _ C.out (by have := (d1.small hB1).1; omega) (by have := L0.out; omega) x l 0 hq hl).mono ?_
    rintro e' w5 (⟨hne, _⟩ | ⟨_, rfl, vo, vi, wv, hC⟩)
    · exact absurd rfl hne
    have C5 := Lib.hid hC; have I5 := Lib.hid hI.swap; have LL := Lib.hid hl
    clear hC hI hl hq d1 hB1
    go_wp2_with fail
    go_ret
    exact ⟨rfl, _, _, _, _, _, _, _, _, _, _, _, _, _, _, _, C5.out, I5.out, by rw [List.length_append]; have := L0.out; have := LL.out; omega, by have := L1.out; omega⟩
end Go.Proofs.Ytbfhohpbldadbaa.P

