/- Texts of this claim, merged and cut to what its theorem reaches, by a program of this session: words and contracts that the print (or a changed scratch copy of it) wrote, and own proofs. -/
import Derived.Test.YtbfhohpbldadbaaEbS1
import Derived.Below
import Derived.Deep.Draws
import Derived.Deep.AppendLies
import Derived.Maps.AppendAt
import Derived.OwnWalk
import Derived.Laws.BytesArg
import Derived.Laws.MakeOwn
import Derived.Laws.OwnMore
import Derived.Deep.OwnRows
import Derived.Tactics
import Derived.Lib.ConvBytes
import Derived.Laws.Slices
import Derived.WalkKit
import Derived.KernelRfl
import Derived.RowKit3
import Derived.Deep.LoopGhost
import Derived.Deep.QuietTactic
import Derived.BigQuiet
import Derived.WideLaws
import Derived.Deep.DeepCutAuto
import Derived.Deep.CutBlock
import Derived.Deep.RegionHeld3
import Derived.Laws.Rows
import Derived.Lib.AppendStr
import Derived.ArgAppend
import Derived.Laws.IdiomCopy
import Derived.RowKit
import Derived.Laws.StructEq
import Derived.Test.YtbfhohpbldadbaaProg
import Derived.OrdersHeld
import Derived.Laws.BitsLemmas
import Derived.Lib.Hide
import Derived.WalkSpells
import Derived.Lib.OthersKept
import Derived.Lib.TrimU
import Derived.Laws.RangeAny
import Derived.Maps.Keyed
import Derived.WideKeyRuns
import Derived.Lib.SliceRun
import Derived.Deep.RegionWith
import Derived.ProofKit
import Derived.OpenShut
import Derived.ChangeOld
import Derived.SizedLaws
import Derived.Deep.Slices
import Derived.Lib.SmallJoins
import Derived.Test.YtbfhohpbldadbaaEb3
namespace Go.Proofs.Ytbfhohpbldadbaa.P
open Go Go.RowKit Go.Proofs.YtbfhohpbldadbaaW.PrintWords Go.Proofs.YtbfhohpbldadbaaW.PrintLast Go.Proofs.YtbfhohpbldadbaaW.PrintMore
set_option linter.unusedVariables false
set_option linter.unusedSimpArgs false
theorem RR_drop {α : Type} {R : α → List Value → Prop} {size : Nat} {w : World} {ad : Addr} {ps : List α} (h : ReadsRow R size w (some ad) ps.length ps) (m : Nat) : ReadsRow R size w (some (ad.add (m * size))) (ps.drop m).length (ps.drop m) := by
  refine ⟨rfl, by have := h.2.1; rw [List.length_drop]; omega, fun hp => ⟨_, rfl, fun j p hj => ?_⟩⟩
  rw [List.length_drop] at hp
  obtain ⟨ad', he, hc⟩ := h.2.2 (by omega)
  injection he with he
  subst he
  rw [List.getElem?_drop] at hj
  obtain ⟨c, hcl, hR, hcc⟩ := hc (m + j) p hj
  refine ⟨c, hcl, hR, fun i u hi => ?_⟩
  have := hcc i u hi
  rw [add_add, show m * size + (j * size + i) = (m + j) * size + i by rw [Nat.add_mul]; omega]
  exact this
theorem ne_new {W : World} {v1 : Value} {k : Nat} (hn : v1.ownBlock = none ∨ ∃ b, v1.ownBlock = some b ∧ W.heap.size ≤ b) (hlt : k < W.heap.size) : some k ≠ v1.ownBlock := by
  rcases hn with h | ⟨b, h, hb⟩
  · rw [h]; simp
  · rw [h]; intro e; injection e with e; omega
section
variable {w W W' : World} {g : Nat} {vo0 vi0 : Value} {x0 : S61} {vo1 vi1 : Value} {x1 : S61} {w0 w1 : Value} {l0 l1 : List S83} {p0 p1 : Value} {r0 r1 : List S39} {now : Int}
/-- A new row takes the place of the messages to 0. -/
theorem Chan.new0 (h : Chan w W g vo0 vi0 x0 vo1 vi1 x1 w0 w1 l0 l1 p0 p1 r0 r1 now) {v1 : Value} {l : List S83} (hb : Below W.heap.size W W') (hn : v1.ownBlock = none ∨ ∃ b, v1.ownBlock = some b ∧ W.heap.size ≤ b)
    (hR : Kd.R k83 83 W' w.heap.size (fun k => k ≠ g ∧ some k ≠ w1.ownBlock ∧ some k ≠ p0.ownBlock ∧ some k ≠ p1.ownBlock) v1 l) : Chan w (W'.setCell ⟨g, 12, none⟩ v1) g vo0 vi0 x0 vo1 vi1 x1 v1 w1 l l1 p0 p1 r0 r1 now := by
  have hblk : ChB W' g vo0 vi0 x0 vo1 vi1 x1 w0 w1 p0 p1 now := h.blk.below hb
  have nr : ∀ k, NR g w0 w1 p0 p1 k ∧ k < W.heap.size → NR g v1 w1 p0 p1 k := fun k hk => ⟨hk.1.1, ne_new hn hk.2, hk.1.2.2⟩
  refine ⟨below_set (g := g) (w := w) (W := W') (bb h.low hb) (Nat.le_refl _) h.ge 12 v1, h.ge, blk_put hblk 12 v1 rfl, ?_, ?_, ?_, ?_, ?_, ?_, ?_, ?_⟩
  · exact Kd.V_far (p := ⟨g, 12, none⟩) (Kd.V_mono (Kd.V_below (Kd.V_bound h.o0) hb) nr) (fun k hk => hk.1) v1
  · exact Kd.V_far (p := ⟨g, 12, none⟩) (Kd.V_mono (Kd.V_below (Kd.V_bound h.i0) hb) nr) (fun k hk => hk.1) v1
  · exact Kd.V_far (p := ⟨g, 12, none⟩) (Kd.V_mono (Kd.V_below (Kd.V_bound h.o1) hb) nr) (fun k hk => hk.1) v1
  · exact Kd.V_far (p := ⟨g, 12, none⟩) (Kd.V_mono (Kd.V_below (Kd.V_bound h.i1) hb) nr) (fun k hk => hk.1) v1
  · exact Kd.R_far (p := ⟨g, 12, none⟩) hR (fun k hk => hk.1) v1
  · exact Kd.R_far (p := ⟨g, 12, none⟩) (Kd.R_mono (Kd.R_below (Kd.R_bound h.ww1) hb) (fun k hk => ⟨hk.1.1, ne_new hn hk.2.2.1, hk.1.2.2⟩)) (fun k hk => hk.1) v1
  · exact Kd.R_far (p := ⟨g, 12, none⟩) (Kd.R_mono (Kd.R_below (Kd.R_bound h.pp0) hb) (fun k hk => ⟨hk.1.1, ne_new hn hk.2.2.1, hk.1.2.2⟩)) (fun k hk => hk.1) v1
  · exact Kd.R_far (p := ⟨g, 12, none⟩) (Kd.R_mono (Kd.R_below (Kd.R_bound h.pp1) hb) (fun k hk => ⟨hk.1.1, ne_new hn hk.2.2.1, hk.1.2.2⟩)) (fun k hk => hk.1) v1
/-- A new row takes the place of the messages to 1. -/
theorem Chan.new1 (h : Chan w W g vo0 vi0 x0 vo1 vi1 x1 w0 w1 l0 l1 p0 p1 r0 r1 now) {v1 : Value} {l : List S83} (hb : Below W.heap.size W W') (hn : v1.ownBlock = none ∨ ∃ b, v1.ownBlock = some b ∧ W.heap.size ≤ b)
    (hR : Kd.R k83 83 W' w.heap.size (fun k => k ≠ g ∧ some k ≠ w0.ownBlock ∧ some k ≠ p0.ownBlock ∧ some k ≠ p1.ownBlock) v1 l) : Chan w (W'.setCell ⟨g, 13, none⟩ v1) g vo0 vi0 x0 vo1 vi1 x1 w0 v1 l0 l p0 p1 r0 r1 now := by
  have hblk : ChB W' g vo0 vi0 x0 vo1 vi1 x1 w0 w1 p0 p1 now := h.blk.below hb
  have nr : ∀ k, NR g w0 w1 p0 p1 k ∧ k < W.heap.size → NR g w0 v1 p0 p1 k := fun k hk => ⟨hk.1.1, hk.1.2.1, ne_new hn hk.2, hk.1.2.2.2⟩
  refine ⟨below_set (g := g) (w := w) (W := W') (bb h.low hb) (Nat.le_refl _) h.ge 13 v1, h.ge, blk_put hblk 13 v1 rfl, ?_, ?_, ?_, ?_, ?_, ?_, ?_, ?_⟩
  · exact Kd.V_far (p := ⟨g, 13, none⟩) (Kd.V_mono (Kd.V_below (Kd.V_bound h.o0) hb) nr) (fun k hk => hk.1) v1
  · exact Kd.V_far (p := ⟨g, 13, none⟩) (Kd.V_mono (Kd.V_below (Kd.V_bound h.i0) hb) nr) (fun k hk => hk.1) v1
  · exact Kd.V_far (p := ⟨g, 13, none⟩) (Kd.V_mono (Kd.V_below (Kd.V_bound h.o1) hb) nr) (fun k hk => hk.1) v1
  · exact Kd.V_far (p := ⟨g, 13, none⟩) (Kd.V_mono (Kd.V_below (Kd.V_bound h.i1) hb) nr) (fun k hk => hk.1) v1
  · exact Kd.R_far (p := ⟨g, 13, none⟩) (Kd.R_mono (Kd.R_below (Kd.R_bound h.ww0) hb) (fun k hk => ⟨hk.1.1, ne_new hn hk.2.2.1, hk.1.2.2⟩)) (fun k hk => hk.1) v1
  · exact Kd.R_far (p := ⟨g, 13, none⟩) hR (fun k hk => hk.1) v1
  · exact Kd.R_far (p := ⟨g, 13, none⟩) (Kd.R_mono (Kd.R_below (Kd.R_bound h.pp0) hb) (fun k hk => ⟨hk.1.1, hk.1.2.1, ne_new hn hk.2.2.1, hk.1.2.2.2⟩)) (fun k hk => hk.1) v1
  · exact Kd.R_far (p := ⟨g, 13, none⟩) (Kd.R_mono (Kd.R_below (Kd.R_bound h.pp1) hb) (fun k hk => ⟨hk.1.1, hk.1.2.1, ne_new hn hk.2.2.1, hk.1.2.2.2⟩)) (fun k hk => hk.1) v1
end
/-- A world that has grown by none of the elder blocks. -/
theorem below_grown {W W' : World} {row : Option Nat} (hg : W.grownBy W' row) (hn : row = none ∨ ∃ b, row = some b ∧ W.heap.size ≤ b) : Below W.heap.size W W' :=
  ⟨hg.os, hg.tape, hg.output, hg.size, fun k hk => hg.block k hk (by rcases hn with h | ⟨b, h, hb⟩ <;> rw [h] <;> simp; omega)⟩
theorem add0g (g n : Nat) : (⟨g, 0, none⟩ : Addr).add (n * k83.sz) = ⟨g, n * 3, none⟩ := by
  show (⟨g, 0, none⟩ : Addr).add (n * 3) = _
  unfold Addr.add
  split
  · next h => rw [h]
  · simp
theorem RR_nil {α : Type} (R : α → List Value → Prop) (size : Nat) (w : World) (A : Option Addr) : ReadsRow R size w A 0 [] := ⟨rfl, by omega, fun h => absurd h (Nat.lt_irrefl _)⟩
theorem below_two {W w3 w4 : World} {v3 : Value} (hb : Below W.heap.size W w3) (hg : w3.grownBy w4 v3.ownBlock) (hn : v3.ownBlock = none ∨ ∃ b, v3.ownBlock = some b ∧ W.heap.size ≤ b) : Below W.heap.size W w4 :=
  ⟨hg.os.trans hb.os, hg.tape.trans hb.tape, hg.output.trans hb.output, Nat.le_trans hb.size hg.size, fun k hk => (hg.block k (Nat.lt_of_lt_of_le hk hb.size) (ne_new hn hk)).trans (hb.block k hk)⟩
theorem new_two {W w3 : World} {v3 v4 : Value} (hb : Below W.heap.size W w3) (hn : v3.ownBlock = none ∨ ∃ b, v3.ownBlock = some b ∧ W.heap.size ≤ b) (hat : v4.ownBlock = v3.ownBlock ∨ ∃ b, v4.ownBlock = some b ∧ w3.heap.size ≤ b) : v4.ownBlock = none ∨ ∃ b, v4.ownBlock = some b ∧ W.heap.size ≤ b := by
  rcases hat with h | ⟨b, h, hb2⟩
  · rw [h]; exact hn
  · exact Or.inr ⟨b, h, Nat.le_trans hb.size hb2⟩
set_option maxHeartbeats 16000000 in
set_option maxRecDepth 100000 in
theorem loseCh0 (w W : World) (g : Nat) (vo0 vi0 : Value) (x0 : S61) (vo1 vi1 : Value) (x1 : S61) (w0 w1 : Value) (l0 l1 : List S83) (p0 p1 : Value) (r0 r1 : List S39) (now : Int) (h : Chan w W g vo0 vi0 x0 vo1 vi1 x1 w0 w1 l0 l1 p0 p1 r0 r1 now) (i : Nat) (hi : i < l0.length) (hw : l0.length ≤ 1000000) :
    Calls Try.prog 41 #[.pointer (some ⟨g, 0, none⟩), .int .i64 0, .int .i64 i] W fun e W' => e = .returned (.tuple #[]) ∧ ∃ wv, Chan w W' g vo0 vi0 x0 vo1 vi1 x1 wv w1 (l0.take i ++ l0.drop (i + 1)) l1 p0 p1 r0 r1 now := by
  obtain ⟨gw, cW, hvw, _, _, _⟩ := Kd.R_form h.ww0 (by omega)
  subst hvw
  have hcap : l0.length ≤ cW := (Kd.R_reads' h.ww0).2.1
  have FR := Lib.hid (fun k (hk : W.heap.size ≤ k) => h.fresh hk)
  have C := Lib.hid h; have HI := Lib.hid hi; have HW := Lib.hid hw
  have HM := Lib.hid (show ReadsRow (k83.M W w.heap.size (fun k => (k ≠ g ∧ some k ≠ w1.ownBlock ∧ some k ≠ p0.ownBlock ∧ some k ≠ p1.ownBlock) ∧ k < W.heap.size)) k83.sz W (some ⟨gw, 0, none⟩) l0.length l0 by
    obtain ⟨A, c, hv, hc, hr⟩ := OwnRow.reads (Kd.R_bound h.ww0).2
    injection hv with h1 h2 h3
    subst h1
    exact hr.imp_ (Below.refl _ _) (fun _ _ hp => k83.M_mono (fun k hk => ⟨hk.1.1, hk.1.2.2.1⟩) hp))
  have HT := Lib.hid (show ReadsRow (k83.M W w.heap.size (fun k => (k ≠ g ∧ some k ≠ w1.ownBlock ∧ some k ≠ p0.ownBlock ∧ some k ≠ p1.ownBlock) ∧ k < W.heap.size)) k83.sz W (some ⟨gw, 0, none⟩) i (l0.take i) by
    refine ⟨by rw [List.length_take]; omega, by have := hw; omega, fun hp => ?_⟩
    obtain ⟨ad, he, hc⟩ := HM.out.2.2 (by omega)
    refine ⟨ad, he, fun j p hj => hc j p ?_⟩
    rw [List.getElem?_take] at hj
    split at hj
    · exact hj
    · cases hj)
  have i0 : (0 : Int) ≤ (i : Int) := by omega
  have i1 : (i : Int) ≤ (cW : Int) := by omega
  have c13 := C.out.blk.c12
  clear h hi hw
  go_enter Try.func41, Try.ntmps41
  have hwi : wrap64 ((i : Int) + 1) = (i : Int) + 1 := wid (by omega) (by have := HI.out; have := HW.out; omega)
  have i2 : (i : Int) + 1 ≤ (l0.length : Int) := by have := HI.out; omega
  have i3 : (l0.length : Int) ≤ (cW : Int) := by omega
  have hcat : l0.take i ++ l0.drop (i + 1) = l0.take i ++ l0.drop (i + 1) := rfl
  by_cases hk : cW = i + 1
  · have hll : l0.length = i + 1 := by have := HI.out; omega
    have hdr : l0.drop (i + 1) = [] := List.drop_eq_nil_of_le (by omega)
    have HDR := Lib.hid hdr
    have HLL := Lib.hid hll
    clear hcat hdr i3
    subst hk
    go_wp2_with (first
      | ((with_reducible refine gate_builtin (b := .append) (xs := #[.tmp 7, .tmp 15]) rfl ?_); at_builtin; refine Kd.R_append_rows k83 (Rr := k83.M W w.heap.size (fun k => (k ≠ g ∧ some k ≠ w1.ownBlock ∧ some k ≠ p0.ownBlock ∧ some k ≠ p1.ownBlock) ∧ k < W.heap.size)) (w0 := w) w.heap.size rfl (.tmp 7) (.tmp 15) 65 83 (.agg #[.int .i64 0, .bool false, .slice none 0 0]) 40 rfl Try.underlying65 info83 rfl (by decide) (by decide) (.slice none 0 0) [] (l0.take i) (some ⟨gw, 0, none⟩) i _ (fun k => k ≠ g ∧ some k ≠ w1.ownBlock ∧ some k ≠ p0.ownBlock ∧ some k ≠ p1.ownBlock) (fun k => (k ≠ g ∧ some k ≠ w1.ownBlock ∧ some k ≠ p0.ownBlock ∧ some k ≠ p1.ownBlock) ∧ k < W.heap.size) rfl rfl (Kd.R_nil _ _ _ _ _) HT.out (fun _ _ h => h) (fun k hk => ⟨hk.1, by simp [Value.ownBlock]⟩) (fun k hk => ⟨(FR.out k hk).1, (FR.out k hk).2.2⟩) C.out.low C.out.low.size (by have := HI.out; have := HW.out; simp only [List.length_nil]; omega) ?_; intro v3 w3 hR3 hb3 hg3 hat3; have BW1 := Lib.hid (below_grown hg3 (Or.inl rfl)); have C3 := Lib.hid (C.out.below BW1.out); have R3 := Lib.hid hR3; have NW := Lib.hid (show v3.ownBlock = none ∨ ∃ b, v3.ownBlock = some b ∧ W.heap.size ≤ b from hat3); clear hR3 hb3 hg3 hat3 c13; have c13 := C3.out.blk.c12)
      | ((with_reducible refine gate_builtin (b := .append) (xs := #[.tmp 17, .tmp 26]) rfl ?_); at_builtin; refine Kd.R_append_rows k83 (Rr := k83.M w3 w.heap.size (fun k => (k ≠ g ∧ some k ≠ w1.ownBlock ∧ some k ≠ p0.ownBlock ∧ some k ≠ p1.ownBlock) ∧ k < W.heap.size)) (w0 := w) w.heap.size rfl (.tmp 17) (.tmp 26) 65 83 (.agg #[.int .i64 0, .bool false, .slice none 0 0]) 40 rfl Try.underlying65 info83 rfl (by decide) (by decide) v3 (l0.take i) [] _ _ _ (fun k => k ≠ g ∧ some k ≠ w1.ownBlock ∧ some k ≠ p0.ownBlock ∧ some k ≠ p1.ownBlock) (fun k => (k ≠ g ∧ some k ≠ w1.ownBlock ∧ some k ≠ p0.ownBlock ∧ some k ≠ p1.ownBlock) ∧ k < W.heap.size) rfl rfl R3.out (RR_nil _ _ _ _) (fun _ _ h => h) (fun k hk => ⟨hk.1, ne_new NW.out hk.2⟩) (fun k hk => ⟨(FR.out k (Nat.le_trans BW1.out.size hk)).1, (FR.out k (Nat.le_trans BW1.out.size hk)).2.2⟩) C3.out.low C3.out.low.size (by have := HI.out; have := HW.out; rw [List.length_take]; omega) ?_; intro v4 w4 hR4 hb4 hg4 hat4; have BW2 := Lib.hid (below_two BW1.out hg4 NW.out); have NW2 := Lib.hid (new_two BW1.out NW.out hat4); obtain ⟨A4, k4, hv4⟩ := Kd.R_slice hR4; obtain ⟨n4, hn4⟩ : ∃ n4, n4 = (l0.take i ++ []).length := ⟨_, rfl⟩; rw [← hn4] at hv4; subst hv4; have R4 := Lib.hid hR4; clear hn4 hR4 hb4 hg4 hat4 c13; have C4 := Lib.hid (C.out.below BW2.out); have c13 := C4.out.blk.c12; have z13 := blk_frozen C4.out.blk 12)
      | fail "no arm")
    refine bodyPost_end (results_none rfl _ _ _) rfl ?_
    rw [HDR.out]
    exact ⟨rfl, _, Chan.new0 C.out BW2.out NW2.out R4.out⟩
  · have HD := Lib.hid (fun (w3 : World) (hb : Below W.heap.size W w3) => (show ReadsRow (k83.M w3 w.heap.size (fun k => (k ≠ g ∧ some k ≠ w1.ownBlock ∧ some k ≠ p0.ownBlock ∧ some k ≠ p1.ownBlock) ∧ k < W.heap.size)) k83.sz w3 (some ⟨gw, (i + 1) * 3, none⟩) (l0.length - (i + 1)) (l0.drop (i + 1)) by
      have h := RR_drop (HM.out.imp_ hb (fun _ _ hp => Kd.M_below hp hb)) (i + 1)
      rw [List.length_drop, add0g] at h
      exact h))
    clear hcat
    go_wp2_with (first
      | ((with_reducible refine gate_builtin (b := .append) (xs := #[.tmp 7, .tmp 15]) rfl ?_); at_builtin; refine Kd.R_append_rows k83 (Rr := k83.M W w.heap.size (fun k => (k ≠ g ∧ some k ≠ w1.ownBlock ∧ some k ≠ p0.ownBlock ∧ some k ≠ p1.ownBlock) ∧ k < W.heap.size)) (w0 := w) w.heap.size rfl (.tmp 7) (.tmp 15) 65 83 (.agg #[.int .i64 0, .bool false, .slice none 0 0]) 40 rfl Try.underlying65 info83 rfl (by decide) (by decide) (.slice none 0 0) [] (l0.take i) (some ⟨gw, 0, none⟩) i _ (fun k => k ≠ g ∧ some k ≠ w1.ownBlock ∧ some k ≠ p0.ownBlock ∧ some k ≠ p1.ownBlock) (fun k => (k ≠ g ∧ some k ≠ w1.ownBlock ∧ some k ≠ p0.ownBlock ∧ some k ≠ p1.ownBlock) ∧ k < W.heap.size) rfl rfl (Kd.R_nil _ _ _ _ _) HT.out (fun _ _ h => h) (fun k hk => ⟨hk.1, by simp [Value.ownBlock]⟩) (fun k hk => ⟨(FR.out k hk).1, (FR.out k hk).2.2⟩) C.out.low C.out.low.size (by have := HI.out; have := HW.out; simp only [List.length_nil]; omega) ?_; intro v3 w3 hR3 hb3 hg3 hat3; have BW1 := Lib.hid (below_grown hg3 (Or.inl rfl)); have C3 := Lib.hid (C.out.below BW1.out); have R3 := Lib.hid hR3; have NW := Lib.hid (show v3.ownBlock = none ∨ ∃ b, v3.ownBlock = some b ∧ W.heap.size ≤ b from hat3); clear hR3 hb3 hg3 hat3 c13; have c13 := C3.out.blk.c12)
      | ((with_reducible refine gate_builtin (b := .append) (xs := #[.tmp 17, .tmp 26]) rfl ?_); at_builtin; refine Kd.R_append_rows k83 (Rr := k83.M w3 w.heap.size (fun k => (k ≠ g ∧ some k ≠ w1.ownBlock ∧ some k ≠ p0.ownBlock ∧ some k ≠ p1.ownBlock) ∧ k < W.heap.size)) (w0 := w) w.heap.size rfl (.tmp 17) (.tmp 26) 65 83 (.agg #[.int .i64 0, .bool false, .slice none 0 0]) 40 rfl Try.underlying65 info83 rfl (by decide) (by decide) v3 (l0.take i) (l0.drop (i + 1)) (some ⟨gw, (i + 1) * 3, none⟩) (l0.length - (i + 1)) (cW - (i + 1)) (fun k => k ≠ g ∧ some k ≠ w1.ownBlock ∧ some k ≠ p0.ownBlock ∧ some k ≠ p1.ownBlock) (fun k => (k ≠ g ∧ some k ≠ w1.ownBlock ∧ some k ≠ p0.ownBlock ∧ some k ≠ p1.ownBlock) ∧ k < W.heap.size) rfl rfl R3.out (HD.out w3 BW1.out) (fun _ _ h => h) (fun k hk => ⟨hk.1, ne_new NW.out hk.2⟩) (fun k hk => ⟨(FR.out k (Nat.le_trans BW1.out.size hk)).1, (FR.out k (Nat.le_trans BW1.out.size hk)).2.2⟩) C3.out.low C3.out.low.size (by have := HI.out; have := HW.out; rw [List.length_take]; omega) ?_; intro v4 w4 hR4 hb4 hg4 hat4; have BW2 := Lib.hid (below_two BW1.out hg4 NW.out); have NW2 := Lib.hid (new_two BW1.out NW.out hat4); obtain ⟨A4, k4, hv4⟩ := Kd.R_slice hR4; obtain ⟨n4, hn4⟩ : ∃ n4, n4 = (l0.take i ++ (l0.drop (i + 1))).length := ⟨_, rfl⟩; rw [← hn4] at hv4; subst hv4; have R4 := Lib.hid hR4; clear hn4 hR4 hb4 hg4 hat4 c13; have C4 := Lib.hid (C.out.below BW2.out); have c13 := C4.out.blk.c12; have z13 := blk_frozen C4.out.blk 12)
      | fail "no arm")
    refine bodyPost_end (results_none rfl _ _ _) rfl ?_
    exact ⟨rfl, _, Chan.new0 C.out BW2.out NW2.out R4.out⟩
set_option maxHeartbeats 16000000 in
set_option maxRecDepth 100000 in
theorem loseCh1 (w W : World) (g : Nat) (vo0 vi0 : Value) (x0 : S61) (vo1 vi1 : Value) (x1 : S61) (w0 w1 : Value) (l0 l1 : List S83) (p0 p1 : Value) (r0 r1 : List S39) (now : Int) (h : Chan w W g vo0 vi0 x0 vo1 vi1 x1 w0 w1 l0 l1 p0 p1 r0 r1 now) (i : Nat) (hi : i < l1.length) (hw : l1.length ≤ 1000000) :
    Calls Try.prog 41 #[.pointer (some ⟨g, 0, none⟩), .int .i64 1, .int .i64 i] W fun e W' => e = .returned (.tuple #[]) ∧ ∃ wv, Chan w W' g vo0 vi0 x0 vo1 vi1 x1 w0 wv l0 (l1.take i ++ l1.drop (i + 1)) p0 p1 r0 r1 now := by
  obtain ⟨gw, cW, hvw, _, _, _⟩ := Kd.R_form h.ww1 (by omega)
  subst hvw
  have hcap : l1.length ≤ cW := (Kd.R_reads' h.ww1).2.1
  have FR := Lib.hid (fun k (hk : W.heap.size ≤ k) => h.fresh hk)
  have C := Lib.hid h; have HI := Lib.hid hi; have HW := Lib.hid hw
  have HM := Lib.hid (show ReadsRow (k83.M W w.heap.size (fun k => (k ≠ g ∧ some k ≠ w0.ownBlock ∧ some k ≠ p0.ownBlock ∧ some k ≠ p1.ownBlock) ∧ k < W.heap.size)) k83.sz W (some ⟨gw, 0, none⟩) l1.length l1 by
    obtain ⟨A, c, hv, hc, hr⟩ := OwnRow.reads (Kd.R_bound h.ww1).2
    injection hv with h1 h2 h3
    subst h1
    exact hr.imp_ (Below.refl _ _) (fun _ _ hp => k83.M_mono (fun k hk => ⟨hk.1.1, hk.1.2.2.1⟩) hp))
  have HT := Lib.hid (show ReadsRow (k83.M W w.heap.size (fun k => (k ≠ g ∧ some k ≠ w0.ownBlock ∧ some k ≠ p0.ownBlock ∧ some k ≠ p1.ownBlock) ∧ k < W.heap.size)) k83.sz W (some ⟨gw, 0, none⟩) i (l1.take i) by
    refine ⟨by rw [List.length_take]; omega, by have := hw; omega, fun hp => ?_⟩
    obtain ⟨ad, he, hc⟩ := HM.out.2.2 (by omega)
    refine ⟨ad, he, fun j p hj => hc j p ?_⟩
    rw [List.getElem?_take] at hj
    split at hj
    · exact hj
    · cases hj)
  have i0 : (0 : Int) ≤ (i : Int) := by omega
  have i1 : (i : Int) ≤ (cW : Int) := by omega
  have c13 := C.out.blk.c13
  clear h hi hw
  go_enter Try.func41, Try.ntmps41
  have hwi : wrap64 ((i : Int) + 1) = (i : Int) + 1 := wid (by omega) (by have := HI.out; have := HW.out; omega)
  have i2 : (i : Int) + 1 ≤ (l1.length : Int) := by have := HI.out; omega
  have i3 : (l1.length : Int) ≤ (cW : Int) := by omega
  have hcat : l1.take i ++ l1.drop (i + 1) = l1.take i ++ l1.drop (i + 1) := rfl
  by_cases hk : cW = i + 1
  · have hll : l1.length = i + 1 := by have := HI.out; omega
    have hdr : l1.drop (i + 1) = [] := List.drop_eq_nil_of_le (by omega)
    have HDR := Lib.hid hdr
    have HLL := Lib.hid hll
    clear hcat hdr i3
    subst hk
    go_wp2_with (first
      | ((with_reducible refine gate_builtin (b := .append) (xs := #[.tmp 7, .tmp 15]) rfl ?_); at_builtin; refine Kd.R_append_rows k83 (Rr := k83.M W w.heap.size (fun k => (k ≠ g ∧ some k ≠ w0.ownBlock ∧ some k ≠ p0.ownBlock ∧ some k ≠ p1.ownBlock) ∧ k < W.heap.size)) (w0 := w) w.heap.size rfl (.tmp 7) (.tmp 15) 65 83 (.agg #[.int .i64 0, .bool false, .slice none 0 0]) 40 rfl Try.underlying65 info83 rfl (by decide) (by decide) (.slice none 0 0) [] (l1.take i) (some ⟨gw, 0, none⟩) i _ (fun k => k ≠ g ∧ some k ≠ w0.ownBlock ∧ some k ≠ p0.ownBlock ∧ some k ≠ p1.ownBlock) (fun k => (k ≠ g ∧ some k ≠ w0.ownBlock ∧ some k ≠ p0.ownBlock ∧ some k ≠ p1.ownBlock) ∧ k < W.heap.size) rfl rfl (Kd.R_nil _ _ _ _ _) HT.out (fun _ _ h => h) (fun k hk => ⟨hk.1, by simp [Value.ownBlock]⟩) (fun k hk => ⟨(FR.out k hk).1, (FR.out k hk).2.1, (FR.out k hk).2.2.2⟩) C.out.low C.out.low.size (by have := HI.out; have := HW.out; simp only [List.length_nil]; omega) ?_; intro v3 w3 hR3 hb3 hg3 hat3; have BW1 := Lib.hid (below_grown hg3 (Or.inl rfl)); have C3 := Lib.hid (C.out.below BW1.out); have R3 := Lib.hid hR3; have NW := Lib.hid (show v3.ownBlock = none ∨ ∃ b, v3.ownBlock = some b ∧ W.heap.size ≤ b from hat3); clear hR3 hb3 hg3 hat3 c13; have c13 := C3.out.blk.c13)
      | ((with_reducible refine gate_builtin (b := .append) (xs := #[.tmp 17, .tmp 26]) rfl ?_); at_builtin; refine Kd.R_append_rows k83 (Rr := k83.M w3 w.heap.size (fun k => (k ≠ g ∧ some k ≠ w0.ownBlock ∧ some k ≠ p0.ownBlock ∧ some k ≠ p1.ownBlock) ∧ k < W.heap.size)) (w0 := w) w.heap.size rfl (.tmp 17) (.tmp 26) 65 83 (.agg #[.int .i64 0, .bool false, .slice none 0 0]) 40 rfl Try.underlying65 info83 rfl (by decide) (by decide) v3 (l1.take i) [] _ _ _ (fun k => k ≠ g ∧ some k ≠ w0.ownBlock ∧ some k ≠ p0.ownBlock ∧ some k ≠ p1.ownBlock) (fun k => (k ≠ g ∧ some k ≠ w0.ownBlock ∧ some k ≠ p0.ownBlock ∧ some k ≠ p1.ownBlock) ∧ k < W.heap.size) rfl rfl R3.out (RR_nil _ _ _ _) (fun _ _ h => h) (fun k hk => ⟨hk.1, ne_new NW.out hk.2⟩) (fun k hk => ⟨(FR.out k (Nat.le_trans BW1.out.size hk)).1, (FR.out k (Nat.le_trans BW1.out.size hk)).2.1, (FR.out k (Nat.le_trans BW1.out.size hk)).2.2.2⟩) C3.out.low C3.out.low.size (by have := HI.out; have := HW.out; rw [List.length_take]; omega) ?_; intro v4 w4 hR4 hb4 hg4 hat4; have BW2 := Lib.hid (below_two BW1.out hg4 NW.out); have NW2 := Lib.hid (new_two BW1.out NW.out hat4); obtain ⟨A4, k4, hv4⟩ := Kd.R_slice hR4; obtain ⟨n4, hn4⟩ : ∃ n4, n4 = (l1.take i ++ []).length := ⟨_, rfl⟩; rw [← hn4] at hv4; subst hv4; have R4 := Lib.hid hR4; clear hn4 hR4 hb4 hg4 hat4 c13; have C4 := Lib.hid (C.out.below BW2.out); have c13 := C4.out.blk.c13; have z13 := blk_frozen C4.out.blk 13)
      | fail "no arm")
    refine bodyPost_end (results_none rfl _ _ _) rfl ?_
    rw [HDR.out]
    exact ⟨rfl, _, Chan.new1 C.out BW2.out NW2.out R4.out⟩
  · have HD := Lib.hid (fun (w3 : World) (hb : Below W.heap.size W w3) => (show ReadsRow (k83.M w3 w.heap.size (fun k => (k ≠ g ∧ some k ≠ w0.ownBlock ∧ some k ≠ p0.ownBlock ∧ some k ≠ p1.ownBlock) ∧ k < W.heap.size)) k83.sz w3 (some ⟨gw, (i + 1) * 3, none⟩) (l1.length - (i + 1)) (l1.drop (i + 1)) by
      have h := RR_drop (HM.out.imp_ hb (fun _ _ hp => Kd.M_below hp hb)) (i + 1)
      rw [List.length_drop, add0g] at h
      exact h))
    clear hcat
    go_wp2_with (first
      | ((with_reducible refine gate_builtin (b := .append) (xs := #[.tmp 7, .tmp 15]) rfl ?_); at_builtin; refine Kd.R_append_rows k83 (Rr := k83.M W w.heap.size (fun k => (k ≠ g ∧ some k ≠ w0.ownBlock ∧ some k ≠ p0.ownBlock ∧ some k ≠ p1.ownBlock) ∧ k < W.heap.size)) (w0 := w) w.heap.size rfl (.tmp 7) (.tmp 15) 65 83 (.agg #[.int .i64 0, .bool false, .slice none 0 0]) 40 rfl Try.underlying65 info83 rfl (by decide) (by decide) (.slice none 0 0) [] (l1.take i) (some ⟨gw, 0, none⟩) i _ (fun k => k ≠ g ∧ some k ≠ w0.ownBlock ∧ some k ≠ p0.ownBlock ∧ some k ≠ p1.ownBlock) (fun k => (k ≠ g ∧ some k ≠ w0.ownBlock ∧ some k ≠ p0.ownBlock ∧ some k ≠ p1.ownBlock) ∧ k < W.heap.size) rfl rfl (Kd.R_nil _ _ _ _ _) HT.out (fun _ _ h => h) (fun k hk => ⟨hk.1, by simp [Value.ownBlock]⟩) (fun k hk => ⟨(FR.out k hk).1, (FR.out k hk).2.1, (FR.out k hk).2.2.2⟩) C.out.low C.out.low.size (by have := HI.out; have := HW.out; simp only [List.length_nil]; omega) ?_; intro v3 w3 hR3 hb3 hg3 hat3; have BW1 := Lib.hid (below_grown hg3 (Or.inl rfl)); have C3 := Lib.hid (C.out.below BW1.out); have R3 := Lib.hid hR3; have NW := Lib.hid (show v3.ownBlock = none ∨ ∃ b, v3.ownBlock = some b ∧ W.heap.size ≤ b from hat3); clear hR3 hb3 hg3 hat3 c13; have c13 := C3.out.blk.c13)
      | ((with_reducible refine gate_builtin (b := .append) (xs := #[.tmp 17, .tmp 26]) rfl ?_); at_builtin; refine Kd.R_append_rows k83 (Rr := k83.M w3 w.heap.size (fun k => (k ≠ g ∧ some k ≠ w0.ownBlock ∧ some k ≠ p0.ownBlock ∧ some k ≠ p1.ownBlock) ∧ k < W.heap.size)) (w0 := w) w.heap.size rfl (.tmp 17) (.tmp 26) 65 83 (.agg #[.int .i64 0, .bool false, .slice none 0 0]) 40 rfl Try.underlying65 info83 rfl (by decide) (by decide) v3 (l1.take i) (l1.drop (i + 1)) (some ⟨gw, (i + 1) * 3, none⟩) (l1.length - (i + 1)) (cW - (i + 1)) (fun k => k ≠ g ∧ some k ≠ w0.ownBlock ∧ some k ≠ p0.ownBlock ∧ some k ≠ p1.ownBlock) (fun k => (k ≠ g ∧ some k ≠ w0.ownBlock ∧ some k ≠ p0.ownBlock ∧ some k ≠ p1.ownBlock) ∧ k < W.heap.size) rfl rfl R3.out (HD.out w3 BW1.out) (fun _ _ h => h) (fun k hk => ⟨hk.1, ne_new NW.out hk.2⟩) (fun k hk => ⟨(FR.out k (Nat.le_trans BW1.out.size hk)).1, (FR.out k (Nat.le_trans BW1.out.size hk)).2.1, (FR.out k (Nat.le_trans BW1.out.size hk)).2.2.2⟩) C3.out.low C3.out.low.size (by have := HI.out; have := HW.out; rw [List.length_take]; omega) ?_; intro v4 w4 hR4 hb4 hg4 hat4; have BW2 := Lib.hid (below_two BW1.out hg4 NW.out); have NW2 := Lib.hid (new_two BW1.out NW.out hat4); obtain ⟨A4, k4, hv4⟩ := Kd.R_slice hR4; obtain ⟨n4, hn4⟩ : ∃ n4, n4 = (l1.take i ++ (l1.drop (i + 1))).length := ⟨_, rfl⟩; rw [← hn4] at hv4; subst hv4; have R4 := Lib.hid hR4; clear hn4 hR4 hb4 hg4 hat4 c13; have C4 := Lib.hid (C.out.below BW2.out); have c13 := C4.out.blk.c13; have z13 := blk_frozen C4.out.blk 13)
      | fail "no arm")
    refine bodyPost_end (results_none rfl _ _ _) rfl ?_
    exact ⟨rfl, _, Chan.new1 C.out BW2.out NW2.out R4.out⟩
end Go.Proofs.Ytbfhohpbldadbaa.P

namespace Go.Proofs.Ytbfhohpbldadbaa.P
open Go Go.RowKit Go.Proofs.YtbfhohpbldadbaaW.PrintWords Go.Proofs.YtbfhohpbldadbaaW.PrintLast Go.Proofs.YtbfhohpbldadbaaW.PrintMore
set_option linter.unusedVariables false
set_option linter.unusedSimpArgs false
/-- One direction of the protocol: s sends the batches B to r; F are acknowledged, E are received. -/
structure Dir (s r : S61) (toR toS : List S83) (B : List (List S39)) (off : List S39) (F E : Nat) : Prop where
  f : s.f1 = F
  e : r.f2 = E
  fb : F ≤ B.length
  fe : E = F ∨ (E = F + 1 ∧ F < B.length ∧ s.f5 ≠ -1)
  o : s.f0 = B.drop F
  i : r.f3 = (B.take E).flatten
  off : off = B.flatten
  dat : ∀ b ∈ toR, b.f1 = false → ∃ n : Nat, b.f0 = n ∧ n ≤ F ∧ B[n]? = some b.f2 ∧ (n = F → s.f5 ≠ -1)
  ack : ∀ b ∈ toS, b.f1 = true → ∃ n : Nat, b.f0 = n ∧ n ≤ E ∧ b.f2 = []
  sz : ∀ q ∈ B, 1 ≤ q.length ∧ q.length ≤ 4
/-- What an end keeps to. -/
structure Side (s : S61) (now : Int) : Prop where
  d : s.f5 = -1 ∨ (0 < s.f0.length ∧ 0 ≤ s.f5 ∧ s.f5 ≤ now + 3)
  n : s.f0.length ≤ 64
theorem Dir.sub {s r : S61} {toR toS toR' toS' : List S83} {B : List (List S39)} {off : List S39} {F E : Nat} (h : Dir s r toR toS B off F E) (h1 : ∀ b ∈ toR', b ∈ toR) (h2 : ∀ b ∈ toS', b ∈ toS) : Dir s r toR' toS' B off F E :=
  ⟨h.f, h.e, h.fb, h.fe, h.o, h.i, h.off, fun b hb => h.dat b (h1 b hb), fun b hb => h.ack b (h2 b hb), h.sz⟩
theorem Dir.pre {s r : S61} {toR toS : List S83} {B : List (List S39)} {off : List S39} {F E : Nat} (h : Dir s r toR toS B off F E) : ∃ t, off = r.f3 ++ t := by
  refine ⟨(B.drop E).flatten, ?_⟩
  rw [h.off, h.i, ← List.flatten_append, List.take_append_drop]
/-- Both directions, and the bounds. -/
structure Inv (x0 x1 : S61) (l0 l1 : List S83) (r0 r1 : List S39) (now : Int) (N : Nat) : Prop where
  d0 : ∃ B F E, Dir x0 x1 l1 l0 B r0 F E ∧ B.length ≤ N
  d1 : ∃ B F E, Dir x1 x0 l0 l1 B r1 F E ∧ B.length ≤ N
  s0 : Side x0 now
  s1 : Side x1 now
  now0 : 0 ≤ now
  now1 : now ≤ 10 * N
theorem Inv.swap {x0 x1 : S61} {l0 l1 : List S83} {r0 r1 : List S39} {now : Int} {N : Nat} (h : Inv x0 x1 l0 l1 r0 r1 now N) : Inv x1 x0 l1 l0 r1 r0 now N := ⟨h.d1, h.d0, h.s1, h.s0, h.now0, h.now1⟩
theorem Inv.start : Inv e0 e0 [] [] [] [] 0 0 :=
  ⟨⟨[], 0, 0, ⟨rfl, rfl, Nat.le_refl _, Or.inl rfl, rfl, rfl, rfl, fun b hb => absurd hb (by simp), fun b hb => absurd hb (by simp), fun q hq => absurd hq (by simp)⟩, Nat.le_refl _⟩,
   ⟨[], 0, 0, ⟨rfl, rfl, Nat.le_refl _, Or.inl rfl, rfl, rfl, rfl, fun b hb => absurd hb (by simp), fun b hb => absurd hb (by simp), fun q hq => absurd hq (by simp)⟩, Nat.le_refl _⟩,
   ⟨Or.inl rfl, by decide⟩, ⟨Or.inl rfl, by decide⟩, by decide, by decide⟩
theorem Inv.chk {x0 x1 : S61} {l0 l1 : List S83} {r0 r1 : List S39} {now : Int} {N : Nat} (h : Inv x0 x1 l0 l1 r0 r1 now N) (hN : N ≤ 1000000) : clCheck x0.f0 x0.f1 x0.f2 x0.f5 = 0 := by
  obtain ⟨B, F, E, d, hB⟩ := h.d0
  obtain ⟨B', F', E', d', hB'⟩ := h.d1
  have hE : E' ≤ B'.length := by rcases d'.fe with h | ⟨h, h2, _⟩ <;> have := d'.fb <;> omega
  have hs := h.s0.d
  have hn := h.now1
  refine check_make h.s0.n (fun l hl => ?_) (by rw [d.f]; omega) (by rw [d.f]; have := d.fb; omega) (by rw [d'.e]; omega) (by rw [d'.e]; omega) ?_
  · rw [d.o] at hl
    have := d.sz l (List.mem_of_mem_drop hl)
    omega
  · rcases hs with h | ⟨h1, h2, h3⟩
    · exact Or.inl h
    · exact Or.inr ⟨h1, h2, by omega⟩
/-- Polling. -/
theorem Inv.poll {x0 x1 : S61} {l0 l1 : List S83} {r0 r1 : List S39} {now : Int} {N : Nat} (h : Inv x0 x1 l0 l1 r0 r1 now N) (hN : N ≤ 1000000) :
    ∃ x l, pollF x0 now = (x, l, 0) ∧ Inv x x1 l0 (l1 ++ l) r0 r1 now N ∧ l.length ≤ 2 := by
  have hc := h.chk hN
  have hv : oddT now = false := by have := h.now0; have := h.now1; simp [oddT]; omega
  have he := poll_eq hc hv
  refine ⟨_, _, he, ?_, ?_⟩
  · obtain ⟨B, F, E, d, hB⟩ := h.d0
    obtain ⟨B', F', E', d', hB'⟩ := h.d1
    have hn0 := h.now0
    refine ⟨⟨B, F, E, ⟨d.f, d.e, d.fb, ?_, d.o, d.i, d.off, ?_, d.ack, d.sz⟩, hB⟩, ⟨B', F', E', ⟨d'.f, d'.e, d'.fb, d'.fe, d'.o, d'.i, d'.off, d'.dat, ?_, d'.sz⟩, hB'⟩, ⟨?_, h.s0.n⟩, h.s1, h.now0, h.now1⟩
    · rcases d.fe with h1 | ⟨h1, h2, h3⟩
      · exact Or.inl h1
      · refine Or.inr ⟨h1, h2, ?_⟩
        show (if sendB x0.f0 x0.f5 now = true then now + 3 else x0.f5) ≠ -1
        split
        · omega
        · exact h3
    · intro b hb hf
      show ∃ n : Nat, b.f0 = n ∧ n ≤ F ∧ B[n]? = some b.f2 ∧ (n = F → (if sendB x0.f0 x0.f5 now = true then now + 3 else x0.f5) ≠ -1)
      rcases List.mem_append.1 hb with hb | hb
      · obtain ⟨n, h1, h2, h3, h4⟩ := d.dat b hb hf
        refine ⟨n, h1, h2, h3, fun hx => ?_⟩
        split
        · omega
        · exact h4 hx
      · unfold pollL at hb
        rcases List.mem_append.1 hb with hb | hb
        · split at hb
          · next hs =>
            obtain rfl := List.mem_singleton.1 hb
            refine ⟨F, d.f, Nat.le_refl _, ?_, fun _ => by rw [if_pos hs]; omega⟩
            have hpos : 0 < x0.f0.length := by unfold sendB at hs; simp only [Bool.and_eq_true, decide_eq_true_eq] at hs; exact hs.1
            have : x0.f0[0]? = some (x0.f0.headD []) := by cases hx : x0.f0 with
              | nil => rw [hx] at hpos; exact absurd hpos (Nat.lt_irrefl _)
              | cons a o => rfl
            rw [d.o, List.getElem?_drop, Nat.add_zero] at this
            rw [this, d.o]
          · simp at hb
        · split at hb
          · obtain rfl := List.mem_singleton.1 hb
            cases hf
          · simp at hb
    · intro b hb hf
      rcases List.mem_append.1 hb with hb | hb
      · exact d'.ack b hb hf
      · unfold pollL at hb
        rcases List.mem_append.1 hb with hb | hb
        · split at hb
          · obtain rfl := List.mem_singleton.1 hb
            cases hf
          · simp at hb
        · split at hb
          · obtain rfl := List.mem_singleton.1 hb
            exact ⟨E', d'.e, Nat.le_refl _, rfl⟩
          · simp at hb
    · show (if sendB x0.f0 x0.f5 now = true then now + 3 else x0.f5) = -1 ∨ _
      split
      · next hs =>
        have hpos : 0 < x0.f0.length := by unfold sendB at hs; simp only [Bool.and_eq_true, decide_eq_true_eq] at hs; exact hs.1
        exact Or.inr ⟨hpos, by show (0 : Int) ≤ now + 3; omega, Int.le_refl _⟩
      · next hs =>
        rcases h.s0.d with h1 | ⟨h1, h2, h3⟩
        · exact Or.inl h1
        · exact Or.inr ⟨h1, h2, h3⟩
  · unfold pollL
    rw [List.length_append]
    cases sendB x0.f0 x0.f5 now <;> cases x0.f4 <;> simp
/-- Messages get lost. -/
theorem Inv.lose0 {x0 x1 : S61} {l0 l0' l1 : List S83} {r0 r1 : List S39} {now : Int} {N : Nat} (h : Inv x0 x1 l0 l1 r0 r1 now N) (hs : ∀ b ∈ l0', b ∈ l0) : Inv x0 x1 l0' l1 r0 r1 now N := by
  obtain ⟨B, F, E, d, hB⟩ := h.d0
  obtain ⟨B', F', E', d', hB'⟩ := h.d1
  exact ⟨⟨B, F, E, d.sub (fun b hb => hb) hs, hB⟩, ⟨B', F', E', d'.sub hs (fun b hb => hb), hB'⟩, h.s0, h.s1, h.now0, h.now1⟩
theorem mem_lose {l : List S83} {i : Nat} {b : S83} (hb : b ∈ l.take i ++ l.drop (i + 1)) : b ∈ l := by
  rcases List.mem_append.1 hb with h | h
  · exact List.mem_of_mem_take h
  · exact List.mem_of_mem_drop h
/-- Time goes on. -/
theorem Inv.wait {x0 x1 : S61} {l0 l1 : List S83} {r0 r1 : List S39} {now d : Int} {N : Nat} (h : Inv x0 x1 l0 l1 r0 r1 now N) (h0 : 0 ≤ d) (h1 : d ≤ 10) : Inv x0 x1 l0 l1 r0 r1 (now + d) (N + 1) := by
  obtain ⟨B, F, E, dd, hB⟩ := h.d0
  obtain ⟨B', F', E', d', hB'⟩ := h.d1
  have hn0 := h.now0
  have hn1 := h.now1
  refine ⟨⟨B, F, E, dd, by omega⟩, ⟨B', F', E', d', by omega⟩, ⟨?_, h.s0.n⟩, ⟨?_, h.s1.n⟩, by omega, by omega⟩
  · rcases h.s0.d with h | ⟨h2, h3, h4⟩
    · exact Or.inl h
    · exact Or.inr ⟨h2, h3, by omega⟩
  · rcases h.s1.d with h | ⟨h2, h3, h4⟩
    · exact Or.inl h
    · exact Or.inr ⟨h2, h3, by omega⟩
/-- A batch is offered. -/
theorem Inv.offer {x0 x1 : S61} {l0 l1 : List S83} {r0 r1 : List S39} {now : Int} {N : Nat} (h : Inv x0 x1 l0 l1 r0 r1 now N) (hN : N ≤ 1000000) (q : List S39) (hq1 : 1 ≤ q.length) (hq2 : q.length ≤ 4) :
    (offF x0 q = (z61, 2) ∧ x0.f0.length = 64) ∨ (∃ x, offF x0 q = (x, 0) ∧ Inv x x1 l0 l1 (r0 ++ q) r1 now (N + 1)) := by
  have hc := h.chk hN
  have hsz : sizedB q.length = true := by unfold sizedB; simp only [Bool.and_eq_true, decide_eq_true_eq]; omega
  by_cases h64 : x0.f0.length = 64
  · left
    refine ⟨?_, h64⟩
    unfold offF
    rw [if_neg (by rw [hc]; simp), if_neg (by omega), if_pos (Or.inr h64)]
  · right
    refine ⟨⟨x0.f0 ++ [q], x0.f1, x0.f2, x0.f3, x0.f4, x0.f5⟩, ?_, ?_⟩
    · unfold offF
      rw [if_neg (by rw [hc]; simp), if_neg (by omega), if_neg (by rw [hsz]; simp; exact h64)]
    · obtain ⟨B, F, E, d, hB⟩ := h.d0
      obtain ⟨B', F', E', d', hB'⟩ := h.d1
      have hn := h.s0.n
      have hEB : E ≤ B.length := by rcases d.fe with h | ⟨h, h2, _⟩ <;> have := d.fb <;> omega
      refine ⟨⟨B ++ [q], F, E, ⟨d.f, d.e, by rw [List.length_append]; have := d.fb; omega, ?_, ?_, ?_, ?_, ?_, d.ack, ?_⟩, by rw [List.length_append]; simp; omega⟩, ⟨B', F', E', ⟨d'.f, d'.e, d'.fb, d'.fe, d'.o, d'.i, d'.off, d'.dat, d'.ack, d'.sz⟩, by omega⟩, ⟨?_, ?_⟩, h.s1, h.now0, by have := h.now1; omega⟩
      · rcases d.fe with h1 | ⟨h1, h2, h3⟩
        · exact Or.inl h1
        · exact Or.inr ⟨h1, by rw [List.length_append]; omega, h3⟩
      · show x0.f0 ++ [q] = _
        rw [d.o, List.drop_append_of_le_length d.fb]
      · rw [d.i, List.take_append_of_le_length hEB]
      · rw [d.off, List.flatten_append]
        simp
      · intro b hb hf
        obtain ⟨n, h1, h2, h3, h4⟩ := d.dat b hb hf
        have hlt := (List.getElem?_eq_some_iff.1 h3).1
        exact ⟨n, h1, h2, by rw [List.getElem?_append_left hlt]; exact h3, h4⟩
      · intro p hp
        rcases List.mem_append.1 hp with hp | hp
        · exact d.sz p hp
        · obtain rfl := List.mem_singleton.1 hp
          exact ⟨hq1, hq2⟩
      · rcases h.s0.d with h1 | ⟨h1, h2, h3⟩
        · exact Or.inl h1
        · exact Or.inr ⟨by show 0 < (x0.f0 ++ [q]).length; rw [List.length_append]; omega, h2, h3⟩
      · show (x0.f0 ++ [q]).length ≤ 64
        rw [List.length_append, List.length_singleton]
        omega
theorem Dir.eb {s r : S61} {toR toS : List S83} {B : List (List S39)} {off : List S39} {F E : Nat} (h : Dir s r toR toS B off F E) : F ≤ E ∧ E ≤ B.length := by
  rcases h.fe with h1 | ⟨h1, h2, _⟩ <;> have := h.fb <;> omega
/-- A message is delivered to the end 0. -/
theorem Inv.deliver {x0 x1 : S61} {l0 l1 : List S83} {r0 r1 : List S39} {now : Int} {N : Nat} (h : Inv x0 x1 l0 l1 r0 r1 now N) (hN : N ≤ 1000000) (b : S83) (hb : b ∈ l0) : ∃ x, recvF x0 b now = (x, 0) ∧ Inv x x1 l0 l1 r0 r1 now N := by
  have hc := h.chk hN
  have hv : oddT now = false := by have := h.now0; have := h.now1; simp [oddT]; omega
  obtain ⟨B, F, E, d, hB⟩ := h.d0
  obtain ⟨B', F', E', d', hB'⟩ := h.d1
  have he := d.eb
  have he' := d'.eb
  cases hf : b.f1
  · obtain ⟨n, h1, h2, h3, h4⟩ := d'.dat b hb hf
    have hlt := (List.getElem?_eq_some_iff.1 h3).1
    have hsz := d'.sz b.f2 (by rw [← (List.getElem?_eq_some_iff.1 h3).2]; exact List.getElem_mem hlt)
    have hval : ¬ (oddT now = true ∨ oddT b.f0 = true ∨ validBatch b = false) := by
      rw [hv, h1]
      intro hx
      rcases hx with hx | hx | hx
      · cases hx
      · simp [oddT] at hx; omega
      · unfold validBatch at hx; rw [hf] at hx; simp only [Bool.false_eq_true, if_false, sizedB, Bool.and_eq_false_iff, decide_eq_false_iff_not] at hx; omega
    rw [recv_eq hc hval, hf, if_neg (by simp)]
    unfold accF
    rw [d'.e, h1, if_neg (show ¬ ((E' : Int) < (n : Int)) by omega)]
    by_cases hn : (n : Int) = (E' : Int)
    · rw [if_pos hn]
      have hnF : n = F' := by omega
      refine ⟨_, rfl, ⟨B, F, E, ⟨d.f, d.e, d.fb, d.fe, d.o, d.i, d.off, d.dat, d.ack, d.sz⟩, hB⟩, ⟨B', F', E' + 1, ⟨d'.f, ?_, d'.fb, Or.inr ⟨by omega, by omega, h4 hnF⟩, d'.o, ?_, d'.off, d'.dat, ?_, d'.sz⟩, hB'⟩, ⟨h.s0.d, h.s0.n⟩, h.s1, h.now0, h.now1⟩
      · show (E' : Int) + 1 = ((E' + 1 : Nat) : Int)
        omega
      · show x0.f3 ++ b.f2 = _
        have hx : B'[E']? = some b.f2 := by rw [← h3]; congr 1; omega
        rw [List.take_add_one, hx, d'.i, List.flatten_append]
        simp
      · intro q hq hqf
        obtain ⟨m, m1, m2, m3⟩ := d'.ack q hq hqf
        exact ⟨m, m1, by omega, m3⟩
    · rw [if_neg hn]
      exact ⟨_, rfl, ⟨B, F, E, ⟨d.f, d.e, d.fb, d.fe, d.o, d.i, d.off, d.dat, d.ack, d.sz⟩, hB⟩, ⟨B', F', E', ⟨d'.f, rfl, d'.fb, d'.fe, d'.o, d'.i, d'.off, d'.dat, d'.ack, d'.sz⟩, hB'⟩, ⟨h.s0.d, h.s0.n⟩, h.s1, h.now0, h.now1⟩
  · obtain ⟨n, h1, h2, h3⟩ := d.ack b hb hf
    have hval : ¬ (oddT now = true ∨ oddT b.f0 = true ∨ validBatch b = false) := by
      rw [hv, h1]
      intro hx
      rcases hx with hx | hx | hx
      · cases hx
      · simp [oddT] at hx; omega
      · unfold validBatch at hx; rw [hf, h3] at hx; simp at hx
    rw [recv_eq hc hval, hf, if_pos rfl]
    unfold ackF
    rw [d.f, h1]
    by_cases hn : (n : Int) ≤ (F : Int)
    · rw [if_pos hn]
      exact ⟨_, rfl, h⟩
    · rw [if_neg hn]
      rcases d.fe with g1 | ⟨g1, g2, g3⟩
      · omega
      · rw [if_neg (fun hx => hx.elim (fun hx => by omega) g3)]
        refine ⟨_, rfl, ⟨B, F + 1, E, ⟨?_, d.e, by omega, Or.inl g1, ?_, d.i, d.off, ?_, d.ack, d.sz⟩, hB⟩, ⟨B', F', E', ⟨d'.f, d'.e, d'.fb, d'.fe, d'.o, d'.i, d'.off, d'.dat, d'.ack, d'.sz⟩, hB'⟩, ⟨Or.inl rfl, ?_⟩, h.s1, h.now0, h.now1⟩
        · show (F : Int) + 1 = ((F + 1 : Nat) : Int)
          omega
        · show x0.f0.drop 1 = _
          rw [d.o, List.drop_drop]
        · intro q hq hqf
          obtain ⟨m, m1, m2, m3, m4⟩ := d.dat q hq hqf
          exact ⟨m, m1, by omega, m3, fun hx => absurd hx (by omega)⟩
        · show (x0.f0.drop 1).length ≤ 64
          rw [List.length_drop]
          have := h.s0.n
          omega
end Go.Proofs.Ytbfhohpbldadbaa.P

namespace Go.Proofs.Ytbfhohpbldadbaa.P
open Go Go.RowKit Go.Proofs.YtbfhohpbldadbaaW.PrintWords Go.Proofs.YtbfhohpbldadbaaW.PrintLast Go.Proofs.YtbfhohpbldadbaaW.PrintMore
set_option linter.unusedVariables false
set_option linter.unusedSimpArgs false
section
variable {w W W' : World} {g : Nat} {vo0 vi0 : Value} {x0 : S61} {vo1 vi1 : Value} {x1 : S61} {w0 w1 : Value} {l0 l1 : List S83} {p0 p1 : Value} {r0 r1 : List S39} {now : Int}
/-- The row of the records offered at 0 has grown, and its cell is written. -/
theorem Chan.off0 (h : Chan w W g vo0 vi0 x0 vo1 vi1 x1 w0 w1 l0 l1 p0 p1 r0 r1 now) {v1 : Value} {l : List S39} (hb : Below w.heap.size w W') (hg : W.grownBy W' p0.ownBlock) (hat : v1.ownBlock = p0.ownBlock ∨ ∃ b, v1.ownBlock = some b ∧ W.heap.size ≤ b)
    (hR : Kd.R k39 39 W' w.heap.size (fun k => k ≠ g ∧ some k ≠ w0.ownBlock ∧ some k ≠ w1.ownBlock ∧ some k ≠ p1.ownBlock) v1 l) : Chan w (W'.setCell ⟨g, 14, none⟩ v1) g vo0 vi0 x0 vo1 vi1 x1 w0 w1 l0 l1 v1 p1 l r1 now := by
  have hne : some g ≠ p0.ownBlock := fun e => (h.pp0.1 g e.symm).1 rfl
  have hblk : ChB W' g vo0 vi0 x0 vo1 vi1 x1 w0 w1 p0 p1 now := blk_grown h.blk hg hne
  have nr : ∀ k, NR g w0 w1 p0 p1 k → k < W.heap.size → NR g w0 w1 v1 p1 k := fun k hk hlt => ⟨hk.1, hk.2.1, hk.2.2.1, ne_after hat hlt hk.2.2.2.1, hk.2.2.2.2⟩
  refine ⟨below_set (g := g) (w := w) (W := W') hb (Nat.le_refl _) h.ge 14 v1, h.ge, blk_put hblk 14 v1 rfl, ?_, ?_, ?_, ?_, ?_, ?_, ?_, ?_⟩
  · exact Kd.V_far (p := ⟨g, 14, none⟩) (V_next h.o0 hg (fun k hk => hk.2.2.2.1) nr) (fun k hk => hk.1) v1
  · exact Kd.V_far (p := ⟨g, 14, none⟩) (V_next h.i0 hg (fun k hk => hk.2.2.2.1) nr) (fun k hk => hk.1) v1
  · exact Kd.V_far (p := ⟨g, 14, none⟩) (V_next h.o1 hg (fun k hk => hk.2.2.2.1) nr) (fun k hk => hk.1) v1
  · exact Kd.V_far (p := ⟨g, 14, none⟩) (V_next h.i1 hg (fun k hk => hk.2.2.2.1) nr) (fun k hk => hk.1) v1
  · exact Kd.R_far (p := ⟨g, 14, none⟩) (R_next h.ww0 hg (fun k hk => hk.2.2.1) (fun k hk hlt => ⟨hk.1, hk.2.1, ne_after hat hlt hk.2.2.1, hk.2.2.2⟩)) (fun k hk => hk.1) v1
  · exact Kd.R_far (p := ⟨g, 14, none⟩) (R_next h.ww1 hg (fun k hk => hk.2.2.1) (fun k hk hlt => ⟨hk.1, hk.2.1, ne_after hat hlt hk.2.2.1, hk.2.2.2⟩)) (fun k hk => hk.1) v1
  · exact Kd.R_far (p := ⟨g, 14, none⟩) (hR) (fun k hk => hk.1) v1
  · exact Kd.R_far (p := ⟨g, 14, none⟩) (R_next h.pp1 hg (fun k hk => hk.2.2.2) (fun k hk hlt => ⟨hk.1, hk.2.1, hk.2.2.1, ne_after hat hlt hk.2.2.2⟩)) (fun k hk => hk.1) v1
/-- The row of the records offered at 1 has grown, and its cell is written. -/
theorem Chan.off1 (h : Chan w W g vo0 vi0 x0 vo1 vi1 x1 w0 w1 l0 l1 p0 p1 r0 r1 now) {v1 : Value} {l : List S39} (hb : Below w.heap.size w W') (hg : W.grownBy W' p1.ownBlock) (hat : v1.ownBlock = p1.ownBlock ∨ ∃ b, v1.ownBlock = some b ∧ W.heap.size ≤ b)
    (hR : Kd.R k39 39 W' w.heap.size (fun k => k ≠ g ∧ some k ≠ w0.ownBlock ∧ some k ≠ w1.ownBlock ∧ some k ≠ p0.ownBlock) v1 l) : Chan w (W'.setCell ⟨g, 15, none⟩ v1) g vo0 vi0 x0 vo1 vi1 x1 w0 w1 l0 l1 p0 v1 r0 l now := by
  have hne : some g ≠ p1.ownBlock := fun e => (h.pp1.1 g e.symm).1 rfl
  have hblk : ChB W' g vo0 vi0 x0 vo1 vi1 x1 w0 w1 p0 p1 now := blk_grown h.blk hg hne
  have nr : ∀ k, NR g w0 w1 p0 p1 k → k < W.heap.size → NR g w0 w1 p0 v1 k := fun k hk hlt => ⟨hk.1, hk.2.1, hk.2.2.1, hk.2.2.2.1, ne_after hat hlt hk.2.2.2.2⟩
  refine ⟨below_set (g := g) (w := w) (W := W') hb (Nat.le_refl _) h.ge 15 v1, h.ge, blk_put hblk 15 v1 rfl, ?_, ?_, ?_, ?_, ?_, ?_, ?_, ?_⟩
  · exact Kd.V_far (p := ⟨g, 15, none⟩) (V_next h.o0 hg (fun k hk => hk.2.2.2.2) nr) (fun k hk => hk.1) v1
  · exact Kd.V_far (p := ⟨g, 15, none⟩) (V_next h.i0 hg (fun k hk => hk.2.2.2.2) nr) (fun k hk => hk.1) v1
  · exact Kd.V_far (p := ⟨g, 15, none⟩) (V_next h.o1 hg (fun k hk => hk.2.2.2.2) nr) (fun k hk => hk.1) v1
  · exact Kd.V_far (p := ⟨g, 15, none⟩) (V_next h.i1 hg (fun k hk => hk.2.2.2.2) nr) (fun k hk => hk.1) v1
  · exact Kd.R_far (p := ⟨g, 15, none⟩) (R_next h.ww0 hg (fun k hk => hk.2.2.2) (fun k hk hlt => ⟨hk.1, hk.2.1, hk.2.2.1, ne_after hat hlt hk.2.2.2⟩)) (fun k hk => hk.1) v1
  · exact Kd.R_far (p := ⟨g, 15, none⟩) (R_next h.ww1 hg (fun k hk => hk.2.2.2) (fun k hk hlt => ⟨hk.1, hk.2.1, hk.2.2.1, ne_after hat hlt hk.2.2.2⟩)) (fun k hk => hk.1) v1
  · exact Kd.R_far (p := ⟨g, 15, none⟩) (R_next h.pp0 hg (fun k hk => hk.2.2.2) (fun k hk hlt => ⟨hk.1, hk.2.1, hk.2.2.1, ne_after hat hlt hk.2.2.2⟩)) (fun k hk => hk.1) v1
  · exact Kd.R_far (p := ⟨g, 15, none⟩) (hR) (fun k hk => hk.1) v1
/-- The time is written. -/
theorem Chan.time (h : Chan w W g vo0 vi0 x0 vo1 vi1 x1 w0 w1 l0 l1 p0 p1 r0 r1 now) (t : Int) : Chan w (W.setCell ⟨g, 16, none⟩ (.int .i64 t)) g vo0 vi0 x0 vo1 vi1 x1 w0 w1 l0 l1 p0 p1 r0 r1 t :=
  ⟨below_set (g := g) (w := w) (W := W) h.low (Nat.le_refl _) h.ge 16 _, h.ge, blk_put h.blk 16 _ rfl, Kd.V_far (p := ⟨g, 16, none⟩) h.o0 (fun k hk => hk.1) _, Kd.V_far (p := ⟨g, 16, none⟩) h.i0 (fun k hk => hk.1) _, Kd.V_far (p := ⟨g, 16, none⟩) h.o1 (fun k hk => hk.1) _, Kd.V_far (p := ⟨g, 16, none⟩) h.i1 (fun k hk => hk.1) _,
    Kd.R_far (p := ⟨g, 16, none⟩) h.ww0 (fun k hk => hk.1) _, Kd.R_far (p := ⟨g, 16, none⟩) h.ww1 (fun k hk => hk.1) _, Kd.R_far (p := ⟨g, 16, none⟩) h.pp0 (fun k hk => hk.1) _, Kd.R_far (p := ⟨g, 16, none⟩) h.pp1 (fun k hk => hk.1) _⟩
end
end Go.Proofs.Ytbfhohpbldadbaa.P

namespace Go.Proofs.Ytbfhohpbldadbaa.P
open Go Go.RowKit Go.Proofs.YtbfhohpbldadbaaW.PrintWords Go.Proofs.YtbfhohpbldadbaaW.PrintLast Go.Proofs.YtbfhohpbldadbaaW.PrintMore
set_option linter.unusedVariables false
set_option linter.unusedSimpArgs false
/-- The cells of an Op. -/
def OBlk (w : World) (g : Nat) (k e s t p : Int) : Prop := w.heap[g]? = some (.cells #[.int .i64 k, .int .i64 e, .int .i64 s, .int .i64 t, .int .i64 p] 75 (0, 0))
section
variable {w w' : World} {g : Nat} {k e s t p : Int}
theorem OBlk.c0 (h : OBlk w g k e s t p) : w.cell? ⟨g, 0, none⟩ = some (.int .i64 k) := (cell_of_row w g 0 _ 75 (0, 0) h).trans rfl
theorem OBlk.c1 (h : OBlk w g k e s t p) : w.cell? ⟨g, 1, none⟩ = some (.int .i64 e) := (cell_of_row w g 1 _ 75 (0, 0) h).trans rfl
theorem OBlk.c2 (h : OBlk w g k e s t p) : w.cell? ⟨g, 2, none⟩ = some (.int .i64 s) := (cell_of_row w g 2 _ 75 (0, 0) h).trans rfl
theorem OBlk.c3 (h : OBlk w g k e s t p) : w.cell? ⟨g, 3, none⟩ = some (.int .i64 t) := (cell_of_row w g 3 _ 75 (0, 0) h).trans rfl
theorem OBlk.c4 (h : OBlk w g k e s t p) : w.cell? ⟨g, 4, none⟩ = some (.int .i64 p) := (cell_of_row w g 4 _ 75 (0, 0) h).trans rfl
theorem OBlk.below (h : OBlk w g k e s t p) (hb : Below w.heap.size w w') : OBlk w' g k e s t p := (hb.block g (heap_lt h)).trans h
theorem OBlk.new (w : World) (k e s t p : Int) : OBlk (w.alloc (.cells #[.int .i64 k, .int .i64 e, .int .i64 s, .int .i64 t, .int .i64 p] 75)) w.heap.size k e s t p := heap_alloc_new w _
end
theorem and_1 (a : Int) : 0 ≤ Go.bits .and .i64 a 1 ∧ Go.bits .and .i64 a 1 ≤ 1 := by
  have h : (BitVec.ofInt 64 a &&& BitVec.ofInt 64 1).toNat < 2 := by
    rw [BitVec.toNat_and]
    have e : (BitVec.ofInt 64 1).toNat = 2 ^ 1 - 1 := by decide
    rw [e, Nat.and_two_pow_sub_one_eq_mod]
    omega
  show 0 ≤ IntKind.wrap .i64 ((BitVec.ofInt 64 a &&& BitVec.ofInt 64 1).toNat : Int) ∧ IntKind.wrap .i64 ((BitVec.ofInt 64 a &&& BitVec.ofInt 64 1).toNat : Int) ≤ 1
  rw [i64_w]
  generalize (BitVec.ofInt 64 a &&& BitVec.ofInt 64 1).toNat = q at h
  unfold wrap64
  omega
theorem and_2b (a : Int) : 0 ≤ Go.bits .and .i64 a 3 ∧ Go.bits .and .i64 a 3 ≤ 3 := by
  have h : (BitVec.ofInt 64 a &&& BitVec.ofInt 64 3).toNat < 4 := by
    rw [BitVec.toNat_and]
    have e : (BitVec.ofInt 64 3).toNat = 2 ^ 2 - 1 := by decide
    rw [e, Nat.and_two_pow_sub_one_eq_mod]
    omega
  show 0 ≤ IntKind.wrap .i64 ((BitVec.ofInt 64 a &&& BitVec.ofInt 64 3).toNat : Int) ∧ IntKind.wrap .i64 ((BitVec.ofInt 64 a &&& BitVec.ofInt 64 3).toNat : Int) ≤ 3
  rw [i64_w]
  generalize (BitVec.ofInt 64 a &&& BitVec.ofInt 64 3).toNat = q at h
  unfold wrap64
  omega
theorem and_3b (a : Int) : 0 ≤ Go.bits .and .i64 a 7 ∧ Go.bits .and .i64 a 7 ≤ 7 := by
  have h : (BitVec.ofInt 64 a &&& BitVec.ofInt 64 7).toNat < 8 := by
    rw [BitVec.toNat_and]
    have e : (BitVec.ofInt 64 7).toNat = 2 ^ 3 - 1 := by decide
    rw [e, Nat.and_two_pow_sub_one_eq_mod]
    omega
  show 0 ≤ IntKind.wrap .i64 ((BitVec.ofInt 64 a &&& BitVec.ofInt 64 7).toNat : Int) ∧ IntKind.wrap .i64 ((BitVec.ofInt 64 a &&& BitVec.ofInt 64 7).toNat : Int) ≤ 7
  rw [i64_w]
  generalize (BitVec.ofInt 64 a &&& BitVec.ofInt 64 7).toNat = q at h
  unfold wrap64
  omega
theorem and_16b (a : Int) : 0 ≤ Go.bits .and .i64 a 65535 ∧ Go.bits .and .i64 a 65535 ≤ 65535 := by
  have h : (BitVec.ofInt 64 a &&& BitVec.ofInt 64 65535).toNat < 65536 := by
    rw [BitVec.toNat_and]
    have e : (BitVec.ofInt 64 65535).toNat = 2 ^ 16 - 1 := by decide
    rw [e, Nat.and_two_pow_sub_one_eq_mod]
    omega
  show 0 ≤ IntKind.wrap .i64 ((BitVec.ofInt 64 a &&& BitVec.ofInt 64 65535).toNat : Int) ∧ IntKind.wrap .i64 ((BitVec.ofInt 64 a &&& BitVec.ofInt 64 65535).toNat : Int) ≤ 65535
  rw [i64_w]
  generalize (BitVec.ofInt 64 a &&& BitVec.ofInt 64 65535).toNat = q at h
  unfold wrap64
  omega
theorem Dir.small {s r : S61} {toR toS : List S83} {B : List (List S39)} {off : List S39} {F E N : Nat} (h : Dir s r toR toS B off F E) (hN : B.length ≤ N) : r.f3.length ≤ 4 * N ∧ off.length ≤ 4 * N := by
  obtain ⟨t, ht⟩ := h.pre
  have h1 : ∀ (B : List (List S39)), (∀ q ∈ B, 1 ≤ q.length ∧ q.length ≤ 4) → B.flatten.length ≤ 4 * B.length := by
    intro B
    induction B with
    | nil => intro _; simp
    | cons a B ih =>
      intro hB
      have h2 := ih (fun q hq => hB q (List.mem_cons_of_mem _ hq))
      have h3 := hB a (by simp)
      rw [List.flatten_cons, List.length_append, List.length_cons]
      omega
  have h2 := h1 B h.sz
  rw [← h.off] at h2
  have h3 : off.length = r.f3.length + t.length := by rw [ht, List.length_append]
  omega
/-- Some channel that keeps to the protocol. -/
def ChInv (w W : World) (g : Nat) (n : Nat) : Prop :=
  ∃ vo0 vi0 x0 vo1 vi1 x1 w0 w1 l0 l1 p0 p1 r0 r1 now, Chan w W g vo0 vi0 x0 vo1 vi1 x1 w0 w1 l0 l1 p0 p1 r0 r1 now ∧ Inv x0 x1 l0 l1 r0 r1 now n ∧ l0.length ≤ 2 * n ∧ l1.length ≤ 2 * n
set_option maxHeartbeats 16000000 in
set_option maxRecDepth 100000 in
/-- An operation that polls. -/
theorem step_one (w W : World) (g n : Nat) (hn : n ≤ 1000) (h : ChInv w W g n) (e s t p : Int) :
    Calls Try.prog 38 #[.pointer (some ⟨g, 0, none⟩), .agg #[.int .i64 1, .int .i64 e, .int .i64 s, .int .i64 t, .int .i64 p]] W fun e W' => e = .returned (.bool true) ∧ ChInv w W' g (n + 1) := by
  obtain ⟨vo0, vi0, x0, vo1, vi1, x1, w0, w1, l0, l1, p0, p1, r0, r1, now, hC, hI, hl0, hl1⟩ := h
  have C := Lib.hid hC; have I := Lib.hid hI; have L0 := Lib.hid hl0; have L1 := Lib.hid hl1
  clear hC hI hl0 hl1
  obtain ⟨ee, hee⟩ : ∃ ee, ee = Go.bits .and .i64 e 1 := ⟨_, rfl⟩
  have h01 := and_1 e
  rw [← hee] at h01
  have E01 := Lib.hid h01; have HEE := Lib.hid hee
  clear h01 hee
  go_enter Try.func38, Try.ntmps38
  have O := Lib.hid (OBlk.new W 1 e s t p)
  have o0 := O.out.c0; have o1 := O.out.c1
  go_wp2_with fail
  rw [← HEE.out]
  obtain ⟨tO, htO⟩ : ∃ tO, tO = W.heap.size := ⟨_, rfl⟩
  rw [← htO] at O
  rw [← htO]
  replace C := Lib.hid (C.out.below (below_one W (.cells #[.int .i64 1, .int .i64 e, .int .i64 s, .int .i64 t, .int .i64 p] 75)))
  clear htO o0 o1
  generalize W.alloc (.cells #[.int .i64 1, .int .i64 e, .int .i64 s, .int .i64 t, .int .i64 p] 75) = w2 at C O ⊢
  replace C := Lib.hid (C.out.below (below_drew (Below.refl _ _)))
  replace O := Lib.hid (O.out.below (below_drew (Below.refl _ _)))
  refine start_ (n := 12) (S := fun w' => w'.cell? ⟨g, 16, none⟩ = some (.int .i64 now) ∧ w'.cell? ⟨tO, 3, none⟩ = some (.int .i64 t)) (ds := [11]) #[false, false, false, false, false, false, false, false, false, false, false, false] (by kernel_rfl) rfl rfl ⟨C.out.blk.c16, O.out.c3⟩ (fun hHeld => ?_)
  generalize w2.drew = w3 at C O hHeld ⊢
  refine pure_ (i := 0) (N := some 86) (v := ?_) (a' := ?_) #[true, false, false, false, false, false, false, false, false, false, false, false] rfl rfl (by kernel_rfl) (fun _ _ _ h => h) (Or.inl ⟨by rfl, ?_⟩) ?_ ?_
  rotate_left
  · intro w'
    go_simp
    with_reducible rfl
  rotate_left
  · simp only [Act.put, List.setIfInBounds_toArray, List.set_cons_zero, List.set_cons_succ, i64_w, i32_w]
    rfl
  refine pure_ (i := 1) (N := some 87) (v := ?_) (a' := ?_) #[true, true, false, false, false, false, false, false, false, false, false, false] rfl rfl (by kernel_rfl) (fun _ _ _ h => h) (Or.inl ⟨by rfl, ?_⟩) ?_ ?_
  rotate_left
  · intro w'
    go_simp
    with_reducible rfl
  rotate_left
  · simp only [Act.put, List.setIfInBounds_toArray, List.set_cons_zero, List.set_cons_succ, i64_w, i32_w]
    rfl
  refine pure_ (i := 2) (N := some 88) (v := ?_) (a' := ?_) #[true, true, true, false, false, false, false, false, false, false, false, false] rfl rfl (by kernel_rfl) (fun _ _ _ h => h) (Or.inl ⟨by rfl, ?_⟩) ?_ ?_
  rotate_left
  · intro w'
    go_simp
    with_reducible rfl
  rotate_left
  · simp only [Act.put, List.setIfInBounds_toArray, List.set_cons_zero, List.set_cons_succ, i64_w, i32_w]
    rfl
  refine pure_ (i := 3) (N := some 89) (v := ?_) (a' := ?_) #[true, true, true, true, false, false, false, false, false, false, false, false] rfl rfl (by kernel_rfl) (fun _ _ _ h => h) (Or.inl ⟨by rfl, ?_⟩) ?_ ?_
  rotate_left
  · intro w'
    go_simp
    with_reducible rfl
  rotate_left
  · simp only [Act.put, List.setIfInBounds_toArray, List.set_cons_zero, List.set_cons_succ, i64_w, i32_w]
    rfl
  refine pure_ (i := 5) (N := some 91) (v := ?_) (a' := ?_) #[true, true, true, true, false, true, false, false, false, false, false, false] rfl rfl (by kernel_rfl) (fun _ _ _ h => h) (Or.inl ⟨by rfl, ?_⟩) ?_ ?_
  rotate_left
  · intro w'
    go_simp
    with_reducible rfl
  rotate_left
  · simp only [Act.put, List.setIfInBounds_toArray, List.set_cons_zero, List.set_cons_succ, i64_w, i32_w]
    rfl
  refine take_ (i := 4) (N := some 90) (v := ?_) (a' := ?_) #[true, true, true, true, true, true, false, false, false, false, false, false] rfl rfl (by kernel_rfl) (fun _ _ _ h => h) (Or.inl ⟨by rfl, ?_⟩) hHeld ?_ ?_
  rotate_left
  · rintro w' ⟨s0, s1⟩
    go_simp
    with_reducible rfl
  rotate_left
  · simp only [Act.put, List.setIfInBounds_toArray, List.set_cons_zero, List.set_cons_succ, i64_w, i32_w]
    rfl
  refine take_ (i := 6) (N := some 92) (v := ?_) (a' := ?_) #[true, true, true, true, true, true, true, false, false, false, false, false] rfl rfl (by kernel_rfl) (fun _ _ _ h => h) (Or.inl ⟨by rfl, ?_⟩) hHeld ?_ ?_
  rotate_left
  · rintro w' ⟨s0, s1⟩
    go_simp
    with_reducible rfl
  rotate_left
  · simp only [Act.put, List.setIfInBounds_toArray, List.set_cons_zero, List.set_cons_succ, i64_w, i32_w]
    rfl
  refine pure_ (i := 7) (N := some 93) (v := ?_) (a' := ?_) #[true, true, true, true, true, true, true, true, false, false, false, false] rfl rfl (by kernel_rfl) (fun _ _ _ h => h) (Or.inl ⟨by rfl, ?_⟩) ?_ ?_
  rotate_left
  · intro w'
    go_simp
    with_reducible rfl
  rotate_left
  · simp only [Act.put, List.setIfInBounds_toArray, List.set_cons_zero, List.set_cons_succ, i64_w, i32_w]
    rfl
  refine pure_ (i := 8) (N := some 94) (v := ?_) (a' := ?_) #[true, true, true, true, true, true, true, true, true, false, false, false] rfl rfl (by kernel_rfl) (fun _ _ _ h => h) (Or.inl ⟨by rfl, ?_⟩) ?_ ?_
  rotate_left
  · intro w'
    go_simp
    with_reducible rfl
  rotate_left
  · simp only [Act.put, List.setIfInBounds_toArray, List.set_cons_zero, List.set_cons_succ, i64_w, i32_w]
    rfl
  refine pure_ (i := 9) (N := some 95) (v := ?_) (a' := ?_) #[true, true, true, true, true, true, true, true, true, true, false, false] rfl rfl (by kernel_rfl) (fun _ _ _ h => h) (Or.inl ⟨by rfl, ?_⟩) ?_ ?_
  rotate_left
  · intro w'
    go_simp
    with_reducible rfl
  rotate_left
  · simp only [Act.put, List.setIfInBounds_toArray, List.set_cons_zero, List.set_cons_succ, i64_w, i32_w]
    rfl
  refine pure_ (i := 10) (N := some 96) (v := ?_) (a' := ?_) #[true, true, true, true, true, true, true, true, true, true, true, false] rfl rfl (by kernel_rfl) (fun _ _ _ h => h) (Or.inl ⟨by rfl, ?_⟩) ?_ ?_
  rotate_left
  · intro w'
    go_simp
    with_reducible rfl
  rotate_left
  · simp only [Act.put, List.setIfInBounds_toArray, List.set_cons_zero, List.set_cons_succ, i64_w, i32_w]
    rfl
  refine last_ (i := 11) (N := none) #[true, true, true, true, true, true, true, true, true, true, true, true] rfl rfl (by kernel_rfl) (by decide) (fun K hK => ?_)
  have q1 := C.out.blk.c16; have q2 := blk_frozen C.out.blk 16
  refine skip_ (w1 := ?_) (by rfl) rfl ?_ ?_
  rotate_left
  · go_simp
    rfl
  refine hK.out _ _ ?_
  clear hK K
  refine done_ (by kernel_rfl) ?_

  replace C := Lib.hid (C.out.time (wrap64 (now + Go.bits .and .i64 t 7)))
  have h7 := and_3b t
  have hnow := I.out.now0
  have hnow1 := I.out.now1
  have hwt : wrap64 (now + Go.bits .and .i64 t 7) = now + Go.bits .and .i64 t 7 := wid (by omega) (by omega)
  have I2 := Lib.hid (I.out.wait h7.1 (by omega))
  rw [← hwt] at I2
  clear h7 hnow hnow1 hwt O hHeld
  generalize w3.setCell ⟨g, 16, none⟩ (.int .i64 (wrap64 (now + Go.bits .and .i64 t 7))) = w4 at C ⊢
  generalize wrap64 (now + Go.bits .and .i64 t 7) = now2 at C I2
  have hor : ee = 0 ∨ ee = 1 := by have := E01.out; omega
  have HN := Lib.hid hn
  rcases hor with rfl | rfl
  · go_wp2_with fail
    obtain ⟨x, l, hq, hI, hl⟩ := I2.out.poll (by omega)
    obtain ⟨B1, F1, E1, d1, hB1⟩ := I2.out.d1
    refine (pollCh0 w w4 g _ _ _ _ _ _ _ _ _ _ _ _ _ _ _ C.out (by have := (d1.small hB1).1; omega) (by have := L1.out; omega) x l 0 hq hl).mono ?_
    rintro e' w5 (⟨hne, _⟩ | ⟨_, rfl, vo, vi, wv, hC⟩)
    · exact absurd rfl hne
    have C5 := Lib.hid hC; have I5 := Lib.hid hI; have LL := Lib.hid hl
    clear hC hI hl hq d1 hB1
    go_wp2_with fail
    go_ret
    exact ⟨rfl, _, _, _, _, _, _, _, _, _, _, _, _, _, _, _, C5.out, I5.out, by have := L0.out; omega, by rw [List.length_append]; have := L1.out; have := LL.out; omega⟩
  · go_wp2_with fail
    obtain ⟨x, l, hq, hI, hl⟩ := I2.out.swap.poll (by omega)
    obtain ⟨B1, F1, E1, d1, hB1⟩ := I2.out.d0
    refine (pollCh1 w w4 g _ _ _ _ _ _ _ _ _ _ _ _ _ _ _ C.out (by have := (d1.small hB1).1; omega) (by have := L0.out; omega) x l 0 hq hl).mono ?_
    rintro e' w5 (⟨hne, _⟩ | ⟨_, rfl, vo, vi, wv, hC⟩)
    · exact absurd rfl hne
    have C5 := Lib.hid hC; have I5 := Lib.hid hI.swap; have LL := Lib.hid hl
    clear hC hI hl hq d1 hB1
    go_wp2_with fail
    go_ret
    exact ⟨rfl, _, _, _, _, _, _, _, _, _, _, _, _, _, _, _, C5.out, I5.out, by rw [List.length_append]; have := L0.out; have := LL.out; omega, by have := L1.out; omega⟩
end Go.Proofs.Ytbfhohpbldadbaa.P

namespace Go.Proofs.Ytbfhohpbldadbaa.P
open Go Go.RowKit Go.Proofs.YtbfhohpbldadbaaW.PrintWords Go.Proofs.YtbfhohpbldadbaaW.PrintLast Go.Proofs.YtbfhohpbldadbaaW.PrintMore
set_option linter.unusedVariables false
set_option linter.unusedSimpArgs false
theorem Inv.next {x0 x1 : S61} {l0 l1 : List S83} {r0 r1 : List S39} {now : Int} {N : Nat} (h : Inv x0 x1 l0 l1 r0 r1 now N) : Inv x0 x1 l0 l1 r0 r1 now (N + 1) := by
  have := h.wait (d := 0) (by decide) (by decide)
  rwa [Int.add_zero] at this
theorem lose_len (l : List S83) (i m : Nat) (h : l.length ≤ m) : (l.take i ++ l.drop (i + 1)).length ≤ m := by
  rw [List.length_append, List.length_take, List.length_drop]; omega
theorem pick_ex (p : Int) {n : Nat} (hn : n ≠ 0) : ∃ i : Nat, (Go.bits .and .i64 p 65535).tmod (n : Int) = (i : Int) ∧ i < n := by
  have hb := and_16b p
  have h1 := Int.tmod_nonneg (n : Int) hb.1
  have h2 := Int.tmod_lt_of_pos (Go.bits .and .i64 p 65535) (show (0 : Int) < (n : Int) by omega)
  exact ⟨((Go.bits .and .i64 p 65535).tmod (n : Int)).toNat, (Int.toNat_of_nonneg h1).symm, by omega⟩
set_option maxHeartbeats 16000000 in
set_option maxRecDepth 100000 in
theorem delF0 (w W : World) (g : Nat) (vo0 vi0 : Value) (x0 : S61) (vo1 vi1 : Value) (x1 : S61) (w0 w1 : Value) (l0 l1 : List S83) (p0 p1 : Value) (r0 r1 : List S39) (now : Int) (h : Chan w W g vo0 vi0 x0 vo1 vi1 x1 w0 w1 l0 l1 p0 p1 r0 r1 now) (hl : x0.f3.length ≤ 1000000) (i : Nat) (hi : i < l0.length) (hw : l0.length ≤ 1000000) (b : S83) (hbi : l0[i]'hi = b) (x : S61) (r : Int) (heq : recvF x0 b now = (x, r)) :
    Calls Try.prog 37 #[.pointer (some ⟨g, 0, none⟩), .int .i64 0, .int .i64 i] W fun e W' => (r ≠ 0 ∧ e = .returned (.bool false) ∧ Below W.heap.size W W') ∨ (r = 0 ∧ e = .returned (.bool true) ∧ (∃ vo vi, Chan w W' g vo vi x vo1 vi1 x1 w0 w1 l0 l1 p0 p1 r0 r1 now) ∧ Fr (fun k => k = g) W W') := by
  obtain ⟨AO, cO, hvo⟩ := Kd.V_slice h.o0
  obtain ⟨AI, cI, hvi⟩ := Kd.V_slice h.i0
  obtain ⟨AW, cW, hvw⟩ := Kd.R_slice h.ww0
  subst hvo hvi hvw
  obtain ⟨ad, A2, k2, hA, hat⟩ := B83_cell (Kd.R_reads' h.ww0).2.2 i hi hi
  subst hA
  replace hat : AtB83 W (ad.add (i * 3)) b A2 k2 := by rw [← hbi]; exact hat
  have C := Lib.hid h; have HL := Lib.hid hl; have HQ := Lib.hid heq; have HI := Lib.hid hi; have AT0 := Lib.hid hat
  have i0 : (0 : Int) ≤ (i : Int) := by omega
  have i1 : (i : Int) < (l0.length : Int) := by omega
  clear h hl heq hbi hat hi hw
  go_enter Try.func37, Try.ntmps37
  go_wp2_with fail
  have HWS := Lib.hid (show Below W.heap.size W W.drew from below_drew (Below.refl _ _))
  have CD := Lib.hid (C.out.below (below_drew (Below.refl _ _)))
  have AT := Lib.hid (AT0.out.keep (below_drew (Below.refl _ _)))
  clear AT0
  refine start_ (n := 26) (S := fun w' => w'.cell? ⟨g, 0, none⟩ = some (.slice AO x0.f0.length cO) ∧ w'.cell? ⟨g, 1, none⟩ = some (.int .i64 x0.f1) ∧ w'.cell? ⟨g, 2, none⟩ = some (.int .i64 x0.f2) ∧ w'.cell? ⟨g, 3, none⟩ = some (.slice AI x0.f3.length cI) ∧ w'.cell? ⟨g, 4, none⟩ = some (.bool x0.f4) ∧ w'.cell? ⟨g, 5, none⟩ = some (.int .i64 x0.f5) ∧ w'.cell? ⟨g, 16, none⟩ = some (.int .i64 now) ∧ w'.cell? ⟨g, 12, none⟩ = some (.slice (some ad) l0.length cW) ∧ w'.cell? (ad.add (i * 3)) = some (.int .i64 b.f0) ∧ w'.cell? ⟨(ad.add (i * 3)).block, (ad.add (i * 3)).off + 1, none⟩ = some (.bool b.f1) ∧ w'.cell? ⟨(ad.add (i * 3)).block, (ad.add (i * 3)).off + 2, none⟩ = some (.slice A2 b.f2.length k2)) (ds := [24]) #[false, false, false, false, false, false, false, false, false, false, false, false, false, false, false, false, false, false, false, false, false, false, false, false, false, false] (by kernel_rfl) rfl rfl ⟨CD.out.blk.c0, CD.out.blk.c1, CD.out.blk.c2, CD.out.blk.c3, CD.out.blk.c4, CD.out.blk.c5, CD.out.blk.c16, CD.out.blk.c12, AT.out.c0, AT.out.c1, AT.out.c2⟩ (fun hHeld => ?_)
  generalize W.drew = wd at CD AT HWS hHeld ⊢
  refine pure_ (i := 0) (N := some 10) (v := ?_) (a' := ?_) #[true, false, false, false, false, false, false, false, false, false, false, false, false, false, false, false, false, false, false, false, false, false, false, false, false, false] rfl rfl (by kernel_rfl) (fun _ _ _ h => h) (Or.inl ⟨by rfl, ?_⟩) ?_ ?_
  rotate_left
  · intro w'
    go_simp
    with_reducible rfl
  rotate_left
  · simp only [Act.put, List.setIfInBounds_toArray, List.set_cons_zero, List.set_cons_succ, i64_w, i32_w]
    rfl
  refine pure_ (i := 1) (N := some 11) (v := ?_) (a' := ?_) #[true, true, false, false, false, false, false, false, false, false, false, false, false, false, false, false, false, false, false, false, false, false, false, false, false, false] rfl rfl (by kernel_rfl) (fun _ _ _ h => h) (Or.inl ⟨by rfl, ?_⟩) ?_ ?_
  rotate_left
  · intro w'
    go_simp
    with_reducible rfl
  rotate_left
  · simp only [Act.put, List.setIfInBounds_toArray, List.set_cons_zero, List.set_cons_succ, i64_w, i32_w]
    rfl
  refine pure_ (i := 2) (N := some 12) (v := ?_) (a' := ?_) #[true, true, true, false, false, false, false, false, false, false, false, false, false, false, false, false, false, false, false, false, false, false, false, false, false, false] rfl rfl (by kernel_rfl) (fun _ _ _ h => h) (Or.inl ⟨by rfl, ?_⟩) ?_ ?_
  rotate_left
  · intro w'
    go_simp
    with_reducible rfl
  rotate_left
  · simp only [Act.put, List.setIfInBounds_toArray, List.set_cons_zero, List.set_cons_succ, i64_w, i32_w]
    rfl
  refine pure_ (i := 3) (N := some 13) (v := ?_) (a' := ?_) #[true, true, true, true, false, false, false, false, false, false, false, false, false, false, false, false, false, false, false, false, false, false, false, false, false, false] rfl rfl (by kernel_rfl) (fun _ _ _ h => h) (Or.inl ⟨by rfl, ?_⟩) ?_ ?_
  rotate_left
  · intro w'
    go_simp
    with_reducible rfl
  rotate_left
  · simp only [Act.put, List.setIfInBounds_toArray, List.set_cons_zero, List.set_cons_succ, i64_w, i32_w]
    rfl
  refine pure_ (i := 4) (N := some 14) (v := ?_) (a' := ?_) #[true, true, true, true, true, false, false, false, false, false, false, false, false, false, false, false, false, false, false, false, false, false, false, false, false, false] rfl rfl (by kernel_rfl) (fun _ _ _ h => h) (Or.inl ⟨by rfl, ?_⟩) ?_ ?_
  rotate_left
  · intro w'
    go_simp
    with_reducible rfl
  rotate_left
  · simp only [Act.put, List.setIfInBounds_toArray, List.set_cons_zero, List.set_cons_succ, i64_w, i32_w]
    rfl
  refine pure_ (i := 6) (N := some 16) (v := ?_) (a' := ?_) #[true, true, true, true, true, false, true, false, false, false, false, false, false, false, false, false, false, false, false, false, false, false, false, false, false, false] rfl rfl (by kernel_rfl) (fun _ _ _ h => h) (Or.inl ⟨by rfl, ?_⟩) ?_ ?_
  rotate_left
  · intro w'
    go_simp
    with_reducible rfl
  rotate_left
  · simp only [Act.put, List.setIfInBounds_toArray, List.set_cons_zero, List.set_cons_succ, i64_w, i32_w]
    rfl
  refine pure_ (i := 7) (N := some 17) (v := ?_) (a' := ?_) #[true, true, true, true, true, false, true, true, false, false, false, false, false, false, false, false, false, false, false, false, false, false, false, false, false, false] rfl rfl (by kernel_rfl) (fun _ _ _ h => h) (Or.inl ⟨by rfl, ?_⟩) ?_ ?_
  rotate_left
  · intro w'
    go_simp
    with_reducible rfl
  rotate_left
  · simp only [Act.put, List.setIfInBounds_toArray, List.set_cons_zero, List.set_cons_succ, i64_w, i32_w]
    rfl
  refine pure_ (i := 8) (N := some 18) (v := ?_) (a' := ?_) #[true, true, true, true, true, false, true, true, true, false, false, false, false, false, false, false, false, false, false, false, false, false, false, false, false, false] rfl rfl (by kernel_rfl) (fun _ _ _ h => h) (Or.inl ⟨by rfl, ?_⟩) ?_ ?_
  rotate_left
  · intro w'
    go_simp
    with_reducible rfl
  rotate_left
  · simp only [Act.put, List.setIfInBounds_toArray, List.set_cons_zero, List.set_cons_succ, i64_w, i32_w]
    rfl
  refine pure_ (i := 9) (N := some 19) (v := ?_) (a' := ?_) #[true, true, true, true, true, false, true, true, true, true, false, false, false, false, false, false, false, false, false, false, false, false, false, false, false, false] rfl rfl (by kernel_rfl) (fun _ _ _ h => h) (Or.inl ⟨by rfl, ?_⟩) ?_ ?_
  rotate_left
  · intro w'
    go_simp
    with_reducible rfl
  rotate_left
  · simp only [Act.put, List.setIfInBounds_toArray, List.set_cons_zero, List.set_cons_succ, i64_w, i32_w]
    rfl
  refine pure_ (i := 10) (N := some 20) (v := ?_) (a' := ?_) #[true, true, true, true, true, false, true, true, true, true, true, false, false, false, false, false, false, false, false, false, false, false, false, false, false, false] rfl rfl (by kernel_rfl) (fun _ _ _ h => h) (Or.inl ⟨by rfl, ?_⟩) ?_ ?_
  rotate_left
  · intro w'
    go_simp
    with_reducible rfl
  rotate_left
  · simp only [Act.put, List.setIfInBounds_toArray, List.set_cons_zero, List.set_cons_succ, i64_w, i32_w]
    rfl
  refine pure_ (i := 12) (N := some 22) (v := ?_) (a' := ?_) #[true, true, true, true, true, false, true, true, true, true, true, false, true, false, false, false, false, false, false, false, false, false, false, false, false, false] rfl rfl (by kernel_rfl) (fun _ _ _ h => h) (Or.inl ⟨by rfl, ?_⟩) ?_ ?_
  rotate_left
  · intro w'
    go_simp
    with_reducible rfl
  rotate_left
  · simp only [Act.put, List.setIfInBounds_toArray, List.set_cons_zero, List.set_cons_succ, i64_w, i32_w]
    rfl
  refine pure_ (i := 15) (N := some 25) (v := ?_) (a' := ?_) #[true, true, true, true, true, false, true, true, true, true, true, false, true, false, false, true, false, false, false, false, false, false, false, false, false, false] rfl rfl (by kernel_rfl) (fun _ _ _ h => h) (Or.inl ⟨by rfl, ?_⟩) ?_ ?_
  rotate_left
  · intro w'
    go_simp
    with_reducible rfl
  rotate_left
  · simp only [Act.put, List.setIfInBounds_toArray, List.set_cons_zero, List.set_cons_succ, i64_w, i32_w]
    rfl
  refine pure_ (i := 16) (N := some 26) (v := ?_) (a' := ?_) #[true, true, true, true, true, false, true, true, true, true, true, false, true, false, false, true, true, false, false, false, false, false, false, false, false, false] rfl rfl (by kernel_rfl) (fun _ _ _ h => h) (Or.inl ⟨by rfl, ?_⟩) ?_ ?_
  rotate_left
  · intro w'
    go_simp
    with_reducible rfl
  rotate_left
  · simp only [Act.put, List.setIfInBounds_toArray, List.set_cons_zero, List.set_cons_succ, i64_w, i32_w]
    rfl
  refine pure_ (i := 17) (N := some 27) (v := ?_) (a' := ?_) #[true, true, true, true, true, false, true, true, true, true, true, false, true, false, false, true, true, true, false, false, false, false, false, false, false, false] rfl rfl (by kernel_rfl) (fun _ _ _ h => h) (Or.inl ⟨by rfl, ?_⟩) ?_ ?_
  rotate_left
  · intro w'
    go_simp
    with_reducible rfl
  rotate_left
  · simp only [Act.put, List.setIfInBounds_toArray, List.set_cons_zero, List.set_cons_succ, i64_w, i32_w]
    rfl
  refine take_ (i := 5) (N := some 15) (v := ?_) (a' := ?_) #[true, true, true, true, true, true, true, true, true, true, true, false, true, false, false, true, true, true, false, false, false, false, false, false, false, false] rfl rfl (by kernel_rfl) (fun _ _ _ h => h) (Or.inl ⟨by rfl, ?_⟩) hHeld ?_ ?_
  rotate_left
  · rintro w' ⟨s0, s1, s2, s3, s4, s5, s6, s7, s8, s9, s10⟩
    go_simp
    with_reducible rfl
  rotate_left
  · simp only [Act.put, List.setIfInBounds_toArray, List.set_cons_zero, List.set_cons_succ, i64_w, i32_w]
    rfl
  refine take_ (i := 11) (N := some 21) (v := ?_) (a' := ?_) #[true, true, true, true, true, true, true, true, true, true, true, true, true, false, false, true, true, true, false, false, false, false, false, false, false, false] rfl rfl (by kernel_rfl) (fun _ _ _ h => h) (Or.inl ⟨by rfl, ?_⟩) hHeld ?_ ?_
  rotate_left
  · rintro w' ⟨s0, s1, s2, s3, s4, s5, s6, s7, s8, s9, s10⟩
    go_simp
    with_reducible rfl
  rotate_left
  · simp only [Act.put, List.setIfInBounds_toArray, List.set_cons_zero, List.set_cons_succ, i64_w, i32_w]
    rfl
  refine pure_ (i := 13) (N := some 23) (v := ?_) (a' := ?_) #[true, true, true, true, true, true, true, true, true, true, true, true, true, true, false, true, true, true, false, false, false, false, false, false, false, false] rfl rfl (by kernel_rfl) (fun _ _ _ h => h) (Or.inl ⟨by rfl, ?_⟩) ?_ ?_
  rotate_left
  · intro w'
    go_simp
    with_reducible rfl
  rotate_left
  · simp only [Act.put, List.setIfInBounds_toArray, List.set_cons_zero, List.set_cons_succ, i64_w, i32_w]
    rfl
  refine take_ (i := 14) (N := some 24) (v := ?_) (a' := ?_) #[true, true, true, true, true, true, true, true, true, true, true, true, true, true, true, true, true, true, false, false, false, false, false, false, false, false] rfl rfl (by kernel_rfl) (fun _ _ _ h => h) (Or.inl ⟨by rfl, ?_⟩) hHeld ?_ ?_
  rotate_left
  · rintro w' ⟨s0, s1, s2, s3, s4, s5, s6, s7, s8, s9, s10⟩
    go_simp
    with_reducible rfl
  rotate_left
  · simp only [Act.put, List.setIfInBounds_toArray, List.set_cons_zero, List.set_cons_succ, i64_w, i32_w]
    rfl
  refine take_ (i := 18) (N := some 28) (v := ?_) (a' := ?_) #[true, true, true, true, true, true, true, true, true, true, true, true, true, true, true, true, true, true, true, false, false, false, false, false, false, false] rfl rfl (by kernel_rfl) (fun _ _ _ h => h) (Or.inl ⟨by rfl, ?_⟩) hHeld ?_ ?_
  rotate_left
  · rintro w' ⟨s0, s1, s2, s3, s4, s5, s6, s7, s8, s9, s10⟩
    go_simp
    with_reducible rfl
  rotate_left
  · simp only [Act.put, List.setIfInBounds_toArray, List.set_cons_zero, List.set_cons_succ, i64_w, i32_w]
    rfl
  refine join_ (σ := Nat × Option Addr × Nat × Option Addr × Nat) 2 #[true, true, true, true, true, true, true, true, true, true, true, true, true, true, true, true, true, true, true, true, true, true, true, true, false, false] (fun s => [(29, .tuple #[.agg #[.slice s.2.1 x.f0.length s.2.2.1, .int .i64 x.f1, .int .i64 x.f2, .slice s.2.2.2.1 x.f3.length s.2.2.2.2, .bool x.f4, .int .i64 x.f5], .int .i64 r]), (7, .pointer (some ⟨s.1, 0, none⟩)), (9, .tuple #[.agg #[.slice s.2.1 x.f0.length s.2.2.1, .int .i64 x.f1, .int .i64 x.f2, .slice s.2.2.2.1 x.f3.length s.2.2.2.2, .bool x.f4, .int .i64 x.f5], .int .i64 r]), (30, .agg #[.slice s.2.1 x.f0.length s.2.2.1, .int .i64 x.f1, .int .i64 x.f2, .slice s.2.2.2.1 x.f3.length s.2.2.2.2, .bool x.f4, .int .i64 x.f5]), (31, .int .i64 r)]) (fun s w' => Below wd.heap.size wd w' ∧ wd.heap.size ≤ s.1 ∧ EBlk w' s.1 61 (.slice none 0 0) 0 0 (.slice none 0 0) false 0 ∧ Kd.V kL 28 w' 0 (fun k => wd.heap.size ≤ k ∧ k ≠ s.1) (.slice s.2.1 x.f0.length s.2.2.1) x.f0 ∧ Kd.V k39 39 w' 0 (fun k => wd.heap.size ≤ k ∧ k ≠ s.1) (.slice s.2.2.2.1 x.f3.length s.2.2.2.2) x.f3) ?_ ?_
  rotate_left
  · intro hCont
    refine two_ (i := 19) (j := 23) (Ni := some 29) (Nj := some 7) #[true, true, true, true, true, true, true, true, true, true, true, true, true, true, true, true, true, true, true, true, false, false, false, false, false, false] #[true, true, true, true, true, true, true, true, true, true, true, true, true, true, true, true, true, true, true, false, false, false, false, true, false, false] rfl rfl rfl rfl (by kernel_rfl) (by decide) (by decide) (fun K hK => ?_) (fun K hK => ?_)
    · skip
      refine goes_ Try.func46 (by kernel_rfl) rfl #[.agg #[.slice AO x0.f0.length cO, .int .i64 x0.f1, .int .i64 x0.f2, .slice AI x0.f3.length cI, .bool x0.f4, .int .i64 x0.f5], .agg #[.int .i64 b.f0, .bool b.f1, .slice A2 b.f2.length k2], .int .i64 now] (by rfl) rfl rfl (by simp only [List.map_toArray, List.map_cons, List.map_nil]; rfl) ?_
      with_reducible refine (recv_lit2 HQ.out AO cO AI cI A2 k2 wd (Kd.V_reads' (CD.out.below (Below.refl _ _)).o0).2.2 (Kd.V_reads' (CD.out.below (Below.refl _ _)).i0).2.2 HL.out (AT.out.keep (Below.refl _ _)).cc).mono ?_
      rintro e wx1 ⟨v, rfl, hE, hb⟩
      refine ⟨_, rfl, ?_⟩
      obtain ⟨A5, k5, A6, k6, rfl, hO, hI⟩ := six_read hE
      clear hE
      have hB1 : Below wd.heap.size wd wx1 := hb
      clear hb
      refine hK.out _ _ ⟨(CD.out.below hB1).blk.c0, (CD.out.below hB1).blk.c1, (CD.out.below hB1).blk.c2, (CD.out.below hB1).blk.c3, (CD.out.below hB1).blk.c4, (CD.out.below hB1).blk.c5, (CD.out.below hB1).blk.c16, (CD.out.below hB1).blk.c12, (AT.out.keep hB1).c0, (AT.out.keep hB1).c1, (AT.out.keep hB1).c2⟩ (fun hHeld => ?_)
      clear hK K
      refine norm_ (a' := ?_) ?_ ?_
      rotate_left
      · show Act.put _ (some 29) _ = _
        simp only [Act.put, List.setIfInBounds_toArray, List.set_cons_zero, List.set_cons_succ, i64_w, i32_w]
        rfl
      refine pure_ (i := 20) (N := some 9) (v := ?_) (a' := ?_) #[true, true, true, true, true, true, true, true, true, true, true, true, true, true, true, true, true, true, true, true, true, false, false, false, false, false] rfl rfl (by kernel_rfl) (fun _ _ _ h => h) (Or.inl ⟨by rfl, ?_⟩) ?_ ?_
      rotate_left
      · intro w'
        go_simp
        with_reducible rfl
      rotate_left
      · simp only [Act.put, List.setIfInBounds_toArray, List.set_cons_zero, List.set_cons_succ, i64_w, i32_w]
        rfl
      refine pure_ (i := 21) (N := some 30) (v := ?_) (a' := ?_) #[true, true, true, true, true, true, true, true, true, true, true, true, true, true, true, true, true, true, true, true, true, true, false, false, false, false] rfl rfl (by kernel_rfl) (fun _ _ _ h => h) (Or.inl ⟨by rfl, ?_⟩) ?_ ?_
      rotate_left
      · intro w'
        go_simp
        with_reducible rfl
      rotate_left
      · simp only [Act.put, List.setIfInBounds_toArray, List.set_cons_zero, List.set_cons_succ, i64_w, i32_w]
        rfl
      refine pure_ (i := 22) (N := some 31) (v := ?_) (a' := ?_) #[true, true, true, true, true, true, true, true, true, true, true, true, true, true, true, true, true, true, true, true, true, true, true, false, false, false] rfl rfl (by kernel_rfl) (fun _ _ _ h => h) (Or.inl ⟨by rfl, ?_⟩) ?_ ?_
      rotate_left
      · intro w'
        go_simp
        with_reducible rfl
      rotate_left
      · simp only [Act.put, List.setIfInBounds_toArray, List.set_cons_zero, List.set_cons_succ, i64_w, i32_w]
        rfl
      refine one_ (i := 23) (N := some 7) #[true, true, true, true, true, true, true, true, true, true, true, true, true, true, true, true, true, true, true, true, true, true, true, true, false, false] rfl rfl (by kernel_rfl) (by decide) (fun K hK => ?_)
      refine value_ (w1 := ?_) (v := ?_) (by rfl) rfl ?_ ?_
      rotate_left 2
      · go_simp
        constructor
        all_goals rfl
      have hB2 : Below wd.heap.size wd (wx1.alloc (.cells #[.slice none 0 0, .int .i64 0, .int .i64 0, .slice none 0 0, .bool false, .int .i64 0] 61)) := al hB1 _
      have hZ := EBlk.new wx1 61 (.slice none 0 0) (.slice none 0 0) 0 0 0 false
      have htle : wd.heap.size ≤ wx1.heap.size := hB1.size
      replace hO := Kd.V_mono (Kd.V_alloc (Kd.V_bound hO) (.cells #[.slice none 0 0, .int .i64 0, .int .i64 0, .slice none 0 0, .bool false, .int .i64 0] 61)) (fun k hk => show wd.heap.size ≤ k ∧ k ≠ wx1.heap.size from ⟨hk.1, by have := hk.2; omega⟩)
      replace hI := Kd.V_mono (Kd.V_alloc (Kd.V_bound hI) (.cells #[.slice none 0 0, .int .i64 0, .int .i64 0, .slice none 0 0, .bool false, .int .i64 0] 61)) (fun k hk => show wd.heap.size ≤ k ∧ k ≠ wx1.heap.size from ⟨hk.1, by have := hk.2; omega⟩)
      generalize wx1.alloc (.cells #[.slice none 0 0, .int .i64 0, .int .i64 0, .slice none 0 0, .bool false, .int .i64 0] 61) = wx2 at hB2 hZ hO hI ⊢
      refine hK.out _ _ ⟨(CD.out.below hB2).blk.c0, (CD.out.below hB2).blk.c1, (CD.out.below hB2).blk.c2, (CD.out.below hB2).blk.c3, (CD.out.below hB2).blk.c4, (CD.out.below hB2).blk.c5, (CD.out.below hB2).blk.c16, (CD.out.below hB2).blk.c12, (AT.out.keep hB2).c0, (AT.out.keep hB2).c1, (AT.out.keep hB2).c2⟩ (fun hHeld => ?_)
      clear hK K
      refine norm_ (a' := ?_) ?_ ?_
      rotate_left
      · show Act.put _ (some 7) _ = _
        simp only [Act.put, List.setIfInBounds_toArray, List.set_cons_zero, List.set_cons_succ, i64_w, i32_w]
        rfl
      exact norm_ (by simp only [putAll, Act.put, List.setIfInBounds_toArray, List.set_cons_zero, List.set_cons_succ] <;> rfl) (hCont (wx1.heap.size, A5, k5, A6, k6) _ ⟨hB2, htle, hZ, hO, hI⟩)
    · skip
      refine value_ (w1 := ?_) (v := ?_) (by rfl) rfl ?_ ?_
      rotate_left 2
      · go_simp
        constructor
        all_goals rfl
      have hB1 : Below wd.heap.size wd (wd.alloc (.cells #[.slice none 0 0, .int .i64 0, .int .i64 0, .slice none 0 0, .bool false, .int .i64 0] 61)) := below_one _ _
      have hZ := EBlk.new wd 61 (.slice none 0 0) (.slice none 0 0) 0 0 0 false
      have htle : wd.heap.size ≤ wd.heap.size := Nat.le_refl _
      generalize wd.alloc (.cells #[.slice none 0 0, .int .i64 0, .int .i64 0, .slice none 0 0, .bool false, .int .i64 0] 61) = wx1 at hB1 hZ ⊢
      refine hK.out _ _ ⟨(CD.out.below hB1).blk.c0, (CD.out.below hB1).blk.c1, (CD.out.below hB1).blk.c2, (CD.out.below hB1).blk.c3, (CD.out.below hB1).blk.c4, (CD.out.below hB1).blk.c5, (CD.out.below hB1).blk.c16, (CD.out.below hB1).blk.c12, (AT.out.keep hB1).c0, (AT.out.keep hB1).c1, (AT.out.keep hB1).c2⟩ (fun hHeld => ?_)
      clear hK K
      refine norm_ (a' := ?_) ?_ ?_
      rotate_left
      · show Act.put _ (some 7) _ = _
        simp only [Act.put, List.setIfInBounds_toArray, List.set_cons_zero, List.set_cons_succ, i64_w, i32_w]
        rfl
      refine one_ (i := 19) (N := some 29) #[true, true, true, true, true, true, true, true, true, true, true, true, true, true, true, true, true, true, true, true, false, false, false, true, false, false] rfl rfl (by kernel_rfl) (by decide) (fun K hK => ?_)
      refine goes_ Try.func46 (by kernel_rfl) rfl #[.agg #[.slice AO x0.f0.length cO, .int .i64 x0.f1, .int .i64 x0.f2, .slice AI x0.f3.length cI, .bool x0.f4, .int .i64 x0.f5], .agg #[.int .i64 b.f0, .bool b.f1, .slice A2 b.f2.length k2], .int .i64 now] (by rfl) rfl rfl (by simp only [List.map_toArray, List.map_cons, List.map_nil]; rfl) ?_
      with_reducible refine (recv_lit2 HQ.out AO cO AI cI A2 k2 wx1 (Kd.V_reads' (CD.out.below hB1).o0).2.2 (Kd.V_reads' (CD.out.below hB1).i0).2.2 HL.out (AT.out.keep hB1).cc).mono ?_
      rintro e wx2 ⟨v, rfl, hE, hb⟩
      refine ⟨_, rfl, ?_⟩
      obtain ⟨A5, k5, A6, k6, rfl, hO, hI⟩ := six_read hE
      clear hE
      replace hO := Kd.V_mono hO (ok' := fun k => wd.heap.size ≤ k ∧ k ≠ wd.heap.size) (fun k hk => show wd.heap.size ≤ k ∧ k ≠ wd.heap.size from ⟨by have := hB1.size; omega, by have := heap_lt hZ; omega⟩)
      replace hI := Kd.V_mono hI (ok' := fun k => wd.heap.size ≤ k ∧ k ≠ wd.heap.size) (fun k hk => show wd.heap.size ≤ k ∧ k ≠ wd.heap.size from ⟨by have := hB1.size; omega, by have := heap_lt hZ; omega⟩)
      replace hZ := hZ.below hb
      have hB2 : Below wd.heap.size wd wx2 := bb hB1 hb
      clear hb
      refine hK.out _ _ ⟨(CD.out.below hB2).blk.c0, (CD.out.below hB2).blk.c1, (CD.out.below hB2).blk.c2, (CD.out.below hB2).blk.c3, (CD.out.below hB2).blk.c4, (CD.out.below hB2).blk.c5, (CD.out.below hB2).blk.c16, (CD.out.below hB2).blk.c12, (AT.out.keep hB2).c0, (AT.out.keep hB2).c1, (AT.out.keep hB2).c2⟩ (fun hHeld => ?_)
      clear hK K
      refine norm_ (a' := ?_) ?_ ?_
      rotate_left
      · show Act.put _ (some 29) _ = _
        simp only [Act.put, List.setIfInBounds_toArray, List.set_cons_zero, List.set_cons_succ, i64_w, i32_w]
        rfl
      refine pure_ (i := 20) (N := some 9) (v := ?_) (a' := ?_) #[true, true, true, true, true, true, true, true, true, true, true, true, true, true, true, true, true, true, true, true, true, false, false, true, false, false] rfl rfl (by kernel_rfl) (fun _ _ _ h => h) (Or.inl ⟨by rfl, ?_⟩) ?_ ?_
      rotate_left
      · intro w'
        go_simp
        with_reducible rfl
      rotate_left
      · simp only [Act.put, List.setIfInBounds_toArray, List.set_cons_zero, List.set_cons_succ, i64_w, i32_w]
        rfl
      refine pure_ (i := 21) (N := some 30) (v := ?_) (a' := ?_) #[true, true, true, true, true, true, true, true, true, true, true, true, true, true, true, true, true, true, true, true, true, true, false, true, false, false] rfl rfl (by kernel_rfl) (fun _ _ _ h => h) (Or.inl ⟨by rfl, ?_⟩) ?_ ?_
      rotate_left
      · intro w'
        go_simp
        with_reducible rfl
      rotate_left
      · simp only [Act.put, List.setIfInBounds_toArray, List.set_cons_zero, List.set_cons_succ, i64_w, i32_w]
        rfl
      refine pure_ (i := 22) (N := some 31) (v := ?_) (a' := ?_) #[true, true, true, true, true, true, true, true, true, true, true, true, true, true, true, true, true, true, true, true, true, true, true, true, false, false] rfl rfl (by kernel_rfl) (fun _ _ _ h => h) (Or.inl ⟨by rfl, ?_⟩) ?_ ?_
      rotate_left
      · intro w'
        go_simp
        with_reducible rfl
      rotate_left
      · simp only [Act.put, List.setIfInBounds_toArray, List.set_cons_zero, List.set_cons_succ, i64_w, i32_w]
        rfl
      exact norm_ (by simp only [putAll, Act.put, List.setIfInBounds_toArray, List.set_cons_zero, List.set_cons_succ] <;> rfl) (hCont (wd.heap.size, A5, k5, A6, k6) _ ⟨hB2, htle, hZ, hO, hI⟩)
  rintro ⟨t, A5, k5, A6, k6⟩ w3 ⟨hB, htle, hZ, hO, hI⟩
  have hHeld : w3.cell? ⟨g, 0, none⟩ = some (.slice AO x0.f0.length cO) ∧ w3.cell? ⟨g, 1, none⟩ = some (.int .i64 x0.f1) ∧ w3.cell? ⟨g, 2, none⟩ = some (.int .i64 x0.f2) ∧ w3.cell? ⟨g, 3, none⟩ = some (.slice AI x0.f3.length cI) ∧ w3.cell? ⟨g, 4, none⟩ = some (.bool x0.f4) ∧ w3.cell? ⟨g, 5, none⟩ = some (.int .i64 x0.f5) ∧ w3.cell? ⟨g, 16, none⟩ = some (.int .i64 now) ∧ w3.cell? ⟨g, 12, none⟩ = some (.slice (some ad) l0.length cW) ∧ w3.cell? (ad.add (i * 3)) = some (.int .i64 b.f0) ∧ w3.cell? ⟨(ad.add (i * 3)).block, (ad.add (i * 3)).off + 1, none⟩ = some (.bool b.f1) ∧ w3.cell? ⟨(ad.add (i * 3)).block, (ad.add (i * 3)).off + 2, none⟩ = some (.slice A2 b.f2.length k2) := ⟨(CD.out.below hB).blk.c0, (CD.out.below hB).blk.c1, (CD.out.below hB).blk.c2, (CD.out.below hB).blk.c3, (CD.out.below hB).blk.c4, (CD.out.below hB).blk.c5, (CD.out.below hB).blk.c16, (CD.out.below hB).blk.c12, (AT.out.keep hB).c0, (AT.out.keep hB).c1, (AT.out.keep hB).c2⟩
  refine norm_ (a' := ?_) ?_ ?_
  rotate_left
  · simp only [putAll, Act.put, List.setIfInBounds_toArray, List.set_cons_zero, List.set_cons_succ]
    rfl
  refine last_ (i := 24) (N := none) #[true, true, true, true, true, true, true, true, true, true, true, true, true, true, true, true, true, true, true, true, true, true, true, true, true, false] rfl rfl (by kernel_rfl) (by decide) (fun K hK => ?_)
  have z0 := hZ.c0; have z1 := hZ.c1; have z2 := hZ.c2; have z3 := hZ.c3; have z4 := hZ.c4; have z5 := hZ.c5; have y := blk_frozen hZ
  refine skip_ (w1 := ?_) (by rfl) rfl ?_ ?_
  rotate_left
  · go_simp
    rfl
  obtain ⟨w4, hw9, Z9, F9⟩ := six hZ (.slice A5 x.f0.length k5) x.f1 x.f2 (.slice A6 x.f3.length k6) x.f4 x.f5
  rw [← hw9]
  clear hw9 z0 z1 z2 z3 z4 z5 y
  refine hK.out _ _ ?_
  clear hK K
  refine pure_ (i := 25) (N := some 8) (v := ?_) (a' := ?_) #[true, true, true, true, true, true, true, true, true, true, true, true, true, true, true, true, true, true, true, true, true, true, true, true, true, true] rfl rfl (by kernel_rfl) (fun _ _ _ h => h) (Or.inl ⟨by rfl, ?_⟩) ?_ ?_
  rotate_left
  · intro w'
    go_simp
    with_reducible rfl
  rotate_left
  · simp only [Act.put, List.setIfInBounds_toArray, List.set_cons_zero, List.set_cons_succ, i64_w, i32_w]
    rfl
  refine done_ (by kernel_rfl) ?_

  have hB4 : Below wd.heap.size wd w4 := Fr.below F9 hB (Nat.le_refl _) (fun k hk => by omega)
  have C4 := Lib.hid (CD.out.below hB4)
  have O4 := Lib.hid (Kd.V_mono (Kd.V_step hO (fun k hk hlt => F9.same k hlt hk.2)) (fun k hk => CD.out.fresh hk.1))
  have I4 := Lib.hid (Kd.V_mono (Kd.V_step hI (fun k hk hlt => F9.same k hlt hk.2)) (fun k hk => CD.out.fresh hk.1))
  have Z4 := Lib.hid Z9
  have B4 := Lib.hid (bb HWS.out hB4)
  clear hO hI F9 hB hB4 hZ Z9 htle hHeld HQ
  by_cases hr : r = 0
  · subst hr
    go_wp2_with fail
    have B5 := Lib.hid (show Below W.heap.size W w4.drew from below_drew B4.out)
    replace C4 := Lib.hid (C4.out.below (below_drew (Below.refl _ _))); replace O4 := Lib.hid (Kd.V_drew O4.out); replace I4 := Lib.hid (Kd.V_drew I4.out); replace Z4 := Lib.hid (Z4.out.below (below_drew (Below.refl _ _)))
    refine start_ (n := 7) (S := fun w' => w'.cell? ⟨t, 0, none⟩ = some (.slice A5 x.f0.length k5) ∧ w'.cell? ⟨t, 1, none⟩ = some (.int .i64 x.f1) ∧ w'.cell? ⟨t, 2, none⟩ = some (.int .i64 x.f2) ∧ w'.cell? ⟨t, 3, none⟩ = some (.slice A6 x.f3.length k6) ∧ w'.cell? ⟨t, 4, none⟩ = some (.bool x.f4) ∧ w'.cell? ⟨t, 5, none⟩ = some (.int .i64 x.f5)) (ds := [6]) #[false, false, false, false, false, false, false] (by kernel_rfl) rfl rfl ⟨Z4.out.c0, Z4.out.c1, Z4.out.c2, Z4.out.c3, Z4.out.c4, Z4.out.c5⟩ (fun hHeld => ?_)
    generalize w4.drew = w5 at B5 C4 O4 I4 Z4 hHeld ⊢
    refine pure_ (i := 0) (N := some 34) (v := ?_) (a' := ?_) #[true, false, false, false, false, false, false] rfl rfl (by kernel_rfl) (fun _ _ _ h => h) (Or.inl ⟨by rfl, ?_⟩) ?_ ?_
    rotate_left
    · intro w'
      go_simp
      with_reducible rfl
    rotate_left
    · simp only [Act.put, List.setIfInBounds_toArray, List.set_cons_zero, List.set_cons_succ, i64_w, i32_w]
      rfl
    refine pure_ (i := 1) (N := some 35) (v := ?_) (a' := ?_) #[true, true, false, false, false, false, false] rfl rfl (by kernel_rfl) (fun _ _ _ h => h) (Or.inl ⟨by rfl, ?_⟩) ?_ ?_
    rotate_left
    · intro w'
      go_simp
      with_reducible rfl
    rotate_left
    · simp only [Act.put, List.setIfInBounds_toArray, List.set_cons_zero, List.set_cons_succ, i64_w, i32_w]
      rfl
    refine pure_ (i := 3) (N := some 37) (v := ?_) (a' := ?_) #[true, true, false, true, false, false, false] rfl rfl (by kernel_rfl) (fun _ _ _ h => h) (Or.inl ⟨by rfl, ?_⟩) ?_ ?_
    rotate_left
    · intro w'
      go_simp
      with_reducible rfl
    rotate_left
    · simp only [Act.put, List.setIfInBounds_toArray, List.set_cons_zero, List.set_cons_succ, i64_w, i32_w]
      rfl
    refine pure_ (i := 4) (N := some 38) (v := ?_) (a' := ?_) #[true, true, false, true, true, false, false] rfl rfl (by kernel_rfl) (fun _ _ _ h => h) (Or.inl ⟨by rfl, ?_⟩) ?_ ?_
    rotate_left
    · intro w'
      go_simp
      with_reducible rfl
    rotate_left
    · simp only [Act.put, List.setIfInBounds_toArray, List.set_cons_zero, List.set_cons_succ, i64_w, i32_w]
      rfl
    refine take_ (i := 2) (N := some 36) (v := ?_) (a' := ?_) #[true, true, true, true, true, false, false] rfl rfl (by kernel_rfl) (fun _ _ _ h => h) (Or.inl ⟨by rfl, ?_⟩) hHeld ?_ ?_
    rotate_left
    · rintro w' ⟨s0, s1, s2, s3, s4, s5⟩
      go_simp
      with_reducible rfl
    rotate_left
    · simp only [Act.put, List.setIfInBounds_toArray, List.set_cons_zero, List.set_cons_succ, i64_w, i32_w]
      rfl
    refine pure_ (i := 5) (N := some 39) (v := ?_) (a' := ?_) #[true, true, true, true, true, true, false] rfl rfl (by kernel_rfl) (fun _ _ _ h => h) (Or.inl ⟨by rfl, ?_⟩) ?_ ?_
    rotate_left
    · intro w'
      go_simp
      with_reducible rfl
    rotate_left
    · simp only [Act.put, List.setIfInBounds_toArray, List.set_cons_zero, List.set_cons_succ, i64_w, i32_w]
      rfl
    refine last_ (i := 6) (N := none) #[true, true, true, true, true, true, true] rfl rfl (by kernel_rfl) (by decide) (fun K hK => ?_)
    have z0 := C4.out.blk.c0; have z1 := C4.out.blk.c1; have z2 := C4.out.blk.c2; have z3 := C4.out.blk.c3; have z4 := C4.out.blk.c4; have z5 := C4.out.blk.c5; have y := blk_frozen C4.out.blk
    refine skip_ (w1 := ?_) (by rfl) rfl ?_ ?_
    rotate_left
    · go_simp
      rfl
    obtain ⟨w6, hw9, hB9, F9⟩ := C4.out.blk.end0 (.slice A5 x.f0.length k5) (.slice A6 x.f3.length k6) x
    rw [← hw9]
    clear hw9 z0 z1 z2 z3 z4 z5 y
    refine hK.out _ _ ?_
    clear hK K
    refine done_ (by kernel_rfl) ?_

    have C6 := Lib.hid (C4.out.set0 F9 hB9 O4.out I4.out)
    have FF := Lib.hid (Fr.trans (Fr.of_below B5.out (fun k => k = g)) F9 (fun _ _ h => h))
    clear C4 O4 I4 Z4 F9 hB9 hHeld
    go_wp2_with fail
    go_ret
    exact ⟨rfl, ⟨.slice A5 x.f0.length k5, .slice A6 x.f3.length k6, C6.out⟩, FF.out⟩
  · have hz : (r != 0) = true := by simpa using hr
    have HRN := Lib.hid hr
    clear hr
    go_wp2_with fail
    go_ret
    exact Or.inl ⟨HRN.out, rfl, B4.out⟩
set_option maxHeartbeats 16000000 in
set_option maxRecDepth 100000 in
theorem delF1 (w W : World) (g : Nat) (vo0 vi0 : Value) (x0 : S61) (vo1 vi1 : Value) (x1 : S61) (w0 w1 : Value) (l0 l1 : List S83) (p0 p1 : Value) (r0 r1 : List S39) (now : Int) (h : Chan w W g vo0 vi0 x0 vo1 vi1 x1 w0 w1 l0 l1 p0 p1 r0 r1 now) (hl : x1.f3.length ≤ 1000000) (i : Nat) (hi : i < l1.length) (hw : l1.length ≤ 1000000) (b : S83) (hbi : l1[i]'hi = b) (x : S61) (r : Int) (heq : recvF x1 b now = (x, r)) :
    Calls Try.prog 37 #[.pointer (some ⟨g, 0, none⟩), .int .i64 1, .int .i64 i] W fun e W' => (r ≠ 0 ∧ e = .returned (.bool false) ∧ Below W.heap.size W W') ∨ (r = 0 ∧ e = .returned (.bool true) ∧ (∃ vo vi, Chan w W' g vo0 vi0 x0 vo vi x w0 w1 l0 l1 p0 p1 r0 r1 now) ∧ Fr (fun k => k = g) W W') := by
  obtain ⟨AO, cO, hvo⟩ := Kd.V_slice h.o1
  obtain ⟨AI, cI, hvi⟩ := Kd.V_slice h.i1
  obtain ⟨AW, cW, hvw⟩ := Kd.R_slice h.ww1
  subst hvo hvi hvw
  obtain ⟨ad, A2, k2, hA, hat⟩ := B83_cell (Kd.R_reads' h.ww1).2.2 i hi hi
  subst hA
  replace hat : AtB83 W (ad.add (i * 3)) b A2 k2 := by rw [← hbi]; exact hat
  have C := Lib.hid h; have HL := Lib.hid hl; have HQ := Lib.hid heq; have HI := Lib.hid hi; have AT0 := Lib.hid hat
  have i0 : (0 : Int) ≤ (i : Int) := by omega
  have i1 : (i : Int) < (l1.length : Int) := by omega
  clear h hl heq hbi hat hi hw
  go_enter Try.func37, Try.ntmps37
  go_wp2_with fail
  have HWS := Lib.hid (show Below W.heap.size W W.drew from below_drew (Below.refl _ _))
  have CD := Lib.hid (C.out.below (below_drew (Below.refl _ _)))
  have AT := Lib.hid (AT0.out.keep (below_drew (Below.refl _ _)))
  clear AT0
  refine start_ (n := 26) (S := fun w' => w'.cell? ⟨g, 6, none⟩ = some (.slice AO x1.f0.length cO) ∧ w'.cell? ⟨g, 7, none⟩ = some (.int .i64 x1.f1) ∧ w'.cell? ⟨g, 8, none⟩ = some (.int .i64 x1.f2) ∧ w'.cell? ⟨g, 9, none⟩ = some (.slice AI x1.f3.length cI) ∧ w'.cell? ⟨g, 10, none⟩ = some (.bool x1.f4) ∧ w'.cell? ⟨g, 11, none⟩ = some (.int .i64 x1.f5) ∧ w'.cell? ⟨g, 16, none⟩ = some (.int .i64 now) ∧ w'.cell? ⟨g, 13, none⟩ = some (.slice (some ad) l1.length cW) ∧ w'.cell? (ad.add (i * 3)) = some (.int .i64 b.f0) ∧ w'.cell? ⟨(ad.add (i * 3)).block, (ad.add (i * 3)).off + 1, none⟩ = some (.bool b.f1) ∧ w'.cell? ⟨(ad.add (i * 3)).block, (ad.add (i * 3)).off + 2, none⟩ = some (.slice A2 b.f2.length k2)) (ds := [24]) #[false, false, false, false, false, false, false, false, false, false, false, false, false, false, false, false, false, false, false, false, false, false, false, false, false, false] (by kernel_rfl) rfl rfl ⟨CD.out.blk.c6, CD.out.blk.c7, CD.out.blk.c8, CD.out.blk.c9, CD.out.blk.c10, CD.out.blk.c11, CD.out.blk.c16, CD.out.blk.c13, AT.out.c0, AT.out.c1, AT.out.c2⟩ (fun hHeld => ?_)
  generalize W.drew = wd at CD AT HWS hHeld ⊢
  refine pure_ (i := 0) (N := some 10) (v := ?_) (a' := ?_) #[true, false, false, false, false, false, false, false, false, false, false, false, false, false, false, false, false, false, false, false, false, false, false, false, false, false] rfl rfl (by kernel_rfl) (fun _ _ _ h => h) (Or.inl ⟨by rfl, ?_⟩) ?_ ?_
  rotate_left
  · intro w'
    go_simp
    with_reducible rfl
  rotate_left
  · simp only [Act.put, List.setIfInBounds_toArray, List.set_cons_zero, List.set_cons_succ, i64_w, i32_w]
    rfl
  refine pure_ (i := 1) (N := some 11) (v := ?_) (a' := ?_) #[true, true, false, false, false, false, false, false, false, false, false, false, false, false, false, false, false, false, false, false, false, false, false, false, false, false] rfl rfl (by kernel_rfl) (fun _ _ _ h => h) (Or.inl ⟨by rfl, ?_⟩) ?_ ?_
  rotate_left
  · intro w'
    go_simp
    with_reducible rfl
  rotate_left
  · simp only [Act.put, List.setIfInBounds_toArray, List.set_cons_zero, List.set_cons_succ, i64_w, i32_w]
    rfl
  refine pure_ (i := 2) (N := some 12) (v := ?_) (a' := ?_) #[true, true, true, false, false, false, false, false, false, false, false, false, false, false, false, false, false, false, false, false, false, false, false, false, false, false] rfl rfl (by kernel_rfl) (fun _ _ _ h => h) (Or.inl ⟨by rfl, ?_⟩) ?_ ?_
  rotate_left
  · intro w'
    go_simp
    with_reducible rfl
  rotate_left
  · simp only [Act.put, List.setIfInBounds_toArray, List.set_cons_zero, List.set_cons_succ, i64_w, i32_w]
    rfl
  refine pure_ (i := 3) (N := some 13) (v := ?_) (a' := ?_) #[true, true, true, true, false, false, false, false, false, false, false, false, false, false, false, false, false, false, false, false, false, false, false, false, false, false] rfl rfl (by kernel_rfl) (fun _ _ _ h => h) (Or.inl ⟨by rfl, ?_⟩) ?_ ?_
  rotate_left
  · intro w'
    go_simp
    with_reducible rfl
  rotate_left
  · simp only [Act.put, List.setIfInBounds_toArray, List.set_cons_zero, List.set_cons_succ, i64_w, i32_w]
    rfl
  refine pure_ (i := 4) (N := some 14) (v := ?_) (a' := ?_) #[true, true, true, true, true, false, false, false, false, false, false, false, false, false, false, false, false, false, false, false, false, false, false, false, false, false] rfl rfl (by kernel_rfl) (fun _ _ _ h => h) (Or.inl ⟨by rfl, ?_⟩) ?_ ?_
  rotate_left
  · intro w'
    go_simp
    with_reducible rfl
  rotate_left
  · simp only [Act.put, List.setIfInBounds_toArray, List.set_cons_zero, List.set_cons_succ, i64_w, i32_w]
    rfl
  refine pure_ (i := 6) (N := some 16) (v := ?_) (a' := ?_) #[true, true, true, true, true, false, true, false, false, false, false, false, false, false, false, false, false, false, false, false, false, false, false, false, false, false] rfl rfl (by kernel_rfl) (fun _ _ _ h => h) (Or.inl ⟨by rfl, ?_⟩) ?_ ?_
  rotate_left
  · intro w'
    go_simp
    with_reducible rfl
  rotate_left
  · simp only [Act.put, List.setIfInBounds_toArray, List.set_cons_zero, List.set_cons_succ, i64_w, i32_w]
    rfl
  refine pure_ (i := 7) (N := some 17) (v := ?_) (a' := ?_) #[true, true, true, true, true, false, true, true, false, false, false, false, false, false, false, false, false, false, false, false, false, false, false, false, false, false] rfl rfl (by kernel_rfl) (fun _ _ _ h => h) (Or.inl ⟨by rfl, ?_⟩) ?_ ?_
  rotate_left
  · intro w'
    go_simp
    with_reducible rfl
  rotate_left
  · simp only [Act.put, List.setIfInBounds_toArray, List.set_cons_zero, List.set_cons_succ, i64_w, i32_w]
    rfl
  refine pure_ (i := 8) (N := some 18) (v := ?_) (a' := ?_) #[true, true, true, true, true, false, true, true, true, false, false, false, false, false, false, false, false, false, false, false, false, false, false, false, false, false] rfl rfl (by kernel_rfl) (fun _ _ _ h => h) (Or.inl ⟨by rfl, ?_⟩) ?_ ?_
  rotate_left
  · intro w'
    go_simp
    with_reducible rfl
  rotate_left
  · simp only [Act.put, List.setIfInBounds_toArray, List.set_cons_zero, List.set_cons_succ, i64_w, i32_w]
    rfl
  refine pure_ (i := 9) (N := some 19) (v := ?_) (a' := ?_) #[true, true, true, true, true, false, true, true, true, true, false, false, false, false, false, false, false, false, false, false, false, false, false, false, false, false] rfl rfl (by kernel_rfl) (fun _ _ _ h => h) (Or.inl ⟨by rfl, ?_⟩) ?_ ?_
  rotate_left
  · intro w'
    go_simp
    with_reducible rfl
  rotate_left
  · simp only [Act.put, List.setIfInBounds_toArray, List.set_cons_zero, List.set_cons_succ, i64_w, i32_w]
    rfl
  refine pure_ (i := 10) (N := some 20) (v := ?_) (a' := ?_) #[true, true, true, true, true, false, true, true, true, true, true, false, false, false, false, false, false, false, false, false, false, false, false, false, false, false] rfl rfl (by kernel_rfl) (fun _ _ _ h => h) (Or.inl ⟨by rfl, ?_⟩) ?_ ?_
  rotate_left
  · intro w'
    go_simp
    with_reducible rfl
  rotate_left
  · simp only [Act.put, List.setIfInBounds_toArray, List.set_cons_zero, List.set_cons_succ, i64_w, i32_w]
    rfl
  refine pure_ (i := 12) (N := some 22) (v := ?_) (a' := ?_) #[true, true, true, true, true, false, true, true, true, true, true, false, true, false, false, false, false, false, false, false, false, false, false, false, false, false] rfl rfl (by kernel_rfl) (fun _ _ _ h => h) (Or.inl ⟨by rfl, ?_⟩) ?_ ?_
  rotate_left
  · intro w'
    go_simp
    with_reducible rfl
  rotate_left
  · simp only [Act.put, List.setIfInBounds_toArray, List.set_cons_zero, List.set_cons_succ, i64_w, i32_w]
    rfl
  refine pure_ (i := 15) (N := some 25) (v := ?_) (a' := ?_) #[true, true, true, true, true, false, true, true, true, true, true, false, true, false, false, true, false, false, false, false, false, false, false, false, false, false] rfl rfl (by kernel_rfl) (fun _ _ _ h => h) (Or.inl ⟨by rfl, ?_⟩) ?_ ?_
  rotate_left
  · intro w'
    go_simp
    with_reducible rfl
  rotate_left
  · simp only [Act.put, List.setIfInBounds_toArray, List.set_cons_zero, List.set_cons_succ, i64_w, i32_w]
    rfl
  refine pure_ (i := 16) (N := some 26) (v := ?_) (a' := ?_) #[true, true, true, true, true, false, true, true, true, true, true, false, true, false, false, true, true, false, false, false, false, false, false, false, false, false] rfl rfl (by kernel_rfl) (fun _ _ _ h => h) (Or.inl ⟨by rfl, ?_⟩) ?_ ?_
  rotate_left
  · intro w'
    go_simp
    with_reducible rfl
  rotate_left
  · simp only [Act.put, List.setIfInBounds_toArray, List.set_cons_zero, List.set_cons_succ, i64_w, i32_w]
    rfl
  refine pure_ (i := 17) (N := some 27) (v := ?_) (a' := ?_) #[true, true, true, true, true, false, true, true, true, true, true, false, true, false, false, true, true, true, false, false, false, false, false, false, false, false] rfl rfl (by kernel_rfl) (fun _ _ _ h => h) (Or.inl ⟨by rfl, ?_⟩) ?_ ?_
  rotate_left
  · intro w'
    go_simp
    with_reducible rfl
  rotate_left
  · simp only [Act.put, List.setIfInBounds_toArray, List.set_cons_zero, List.set_cons_succ, i64_w, i32_w]
    rfl
  refine take_ (i := 5) (N := some 15) (v := ?_) (a' := ?_) #[true, true, true, true, true, true, true, true, true, true, true, false, true, false, false, true, true, true, false, false, false, false, false, false, false, false] rfl rfl (by kernel_rfl) (fun _ _ _ h => h) (Or.inl ⟨by rfl, ?_⟩) hHeld ?_ ?_
  rotate_left
  · rintro w' ⟨s0, s1, s2, s3, s4, s5, s6, s7, s8, s9, s10⟩
    go_simp
    with_reducible rfl
  rotate_left
  · simp only [Act.put, List.setIfInBounds_toArray, List.set_cons_zero, List.set_cons_succ, i64_w, i32_w]
    rfl
  refine take_ (i := 11) (N := some 21) (v := ?_) (a' := ?_) #[true, true, true, true, true, true, true, true, true, true, true, true, true, false, false, true, true, true, false, false, false, false, false, false, false, false] rfl rfl (by kernel_rfl) (fun _ _ _ h => h) (Or.inl ⟨by rfl, ?_⟩) hHeld ?_ ?_
  rotate_left
  · rintro w' ⟨s0, s1, s2, s3, s4, s5, s6, s7, s8, s9, s10⟩
    go_simp
    with_reducible rfl
  rotate_left
  · simp only [Act.put, List.setIfInBounds_toArray, List.set_cons_zero, List.set_cons_succ, i64_w, i32_w]
    rfl
  refine pure_ (i := 13) (N := some 23) (v := ?_) (a' := ?_) #[true, true, true, true, true, true, true, true, true, true, true, true, true, true, false, true, true, true, false, false, false, false, false, false, false, false] rfl rfl (by kernel_rfl) (fun _ _ _ h => h) (Or.inl ⟨by rfl, ?_⟩) ?_ ?_
  rotate_left
  · intro w'
    go_simp
    with_reducible rfl
  rotate_left
  · simp only [Act.put, List.setIfInBounds_toArray, List.set_cons_zero, List.set_cons_succ, i64_w, i32_w]
    rfl
  refine take_ (i := 14) (N := some 24) (v := ?_) (a' := ?_) #[true, true, true, true, true, true, true, true, true, true, true, true, true, true, true, true, true, true, false, false, false, false, false, false, false, false] rfl rfl (by kernel_rfl) (fun _ _ _ h => h) (Or.inl ⟨by rfl, ?_⟩) hHeld ?_ ?_
  rotate_left
  · rintro w' ⟨s0, s1, s2, s3, s4, s5, s6, s7, s8, s9, s10⟩
    go_simp
    with_reducible rfl
  rotate_left
  · simp only [Act.put, List.setIfInBounds_toArray, List.set_cons_zero, List.set_cons_succ, i64_w, i32_w]
    rfl
  refine take_ (i := 18) (N := some 28) (v := ?_) (a' := ?_) #[true, true, true, true, true, true, true, true, true, true, true, true, true, true, true, true, true, true, true, false, false, false, false, false, false, false] rfl rfl (by kernel_rfl) (fun _ _ _ h => h) (Or.inl ⟨by rfl, ?_⟩) hHeld ?_ ?_
  rotate_left
  · rintro w' ⟨s0, s1, s2, s3, s4, s5, s6, s7, s8, s9, s10⟩
    go_simp
    with_reducible rfl
  rotate_left
  · simp only [Act.put, List.setIfInBounds_toArray, List.set_cons_zero, List.set_cons_succ, i64_w, i32_w]
    rfl
  refine join_ (σ := Nat × Option Addr × Nat × Option Addr × Nat) 2 #[true, true, true, true, true, true, true, true, true, true, true, true, true, true, true, true, true, true, true, true, true, true, true, true, false, false] (fun s => [(29, .tuple #[.agg #[.slice s.2.1 x.f0.length s.2.2.1, .int .i64 x.f1, .int .i64 x.f2, .slice s.2.2.2.1 x.f3.length s.2.2.2.2, .bool x.f4, .int .i64 x.f5], .int .i64 r]), (7, .pointer (some ⟨s.1, 0, none⟩)), (9, .tuple #[.agg #[.slice s.2.1 x.f0.length s.2.2.1, .int .i64 x.f1, .int .i64 x.f2, .slice s.2.2.2.1 x.f3.length s.2.2.2.2, .bool x.f4, .int .i64 x.f5], .int .i64 r]), (30, .agg #[.slice s.2.1 x.f0.length s.2.2.1, .int .i64 x.f1, .int .i64 x.f2, .slice s.2.2.2.1 x.f3.length s.2.2.2.2, .bool x.f4, .int .i64 x.f5]), (31, .int .i64 r)]) (fun s w' => Below wd.heap.size wd w' ∧ wd.heap.size ≤ s.1 ∧ EBlk w' s.1 61 (.slice none 0 0) 0 0 (.slice none 0 0) false 0 ∧ Kd.V kL 28 w' 0 (fun k => wd.heap.size ≤ k ∧ k ≠ s.1) (.slice s.2.1 x.f0.length s.2.2.1) x.f0 ∧ Kd.V k39 39 w' 0 (fun k => wd.heap.size ≤ k ∧ k ≠ s.1) (.slice s.2.2.2.1 x.f3.length s.2.2.2.2) x.f3) ?_ ?_
  rotate_left
  · intro hCont
    refine two_ (i := 19) (j := 23) (Ni := some 29) (Nj := some 7) #[true, true, true, true, true, true, true, true, true, true, true, true, true, true, true, true, true, true, true, true, false, false, false, false, false, false] #[true, true, true, true, true, true, true, true, true, true, true, true, true, true, true, true, true, true, true, false, false, false, false, true, false, false] rfl rfl rfl rfl (by kernel_rfl) (by decide) (by decide) (fun K hK => ?_) (fun K hK => ?_)
    · skip
      refine goes_ Try.func46 (by kernel_rfl) rfl #[.agg #[.slice AO x1.f0.length cO, .int .i64 x1.f1, .int .i64 x1.f2, .slice AI x1.f3.length cI, .bool x1.f4, .int .i64 x1.f5], .agg #[.int .i64 b.f0, .bool b.f1, .slice A2 b.f2.length k2], .int .i64 now] (by rfl) rfl rfl (by simp only [List.map_toArray, List.map_cons, List.map_nil]; rfl) ?_
      with_reducible refine (recv_lit2 HQ.out AO cO AI cI A2 k2 wd (Kd.V_reads' (CD.out.below (Below.refl _ _)).o1).2.2 (Kd.V_reads' (CD.out.below (Below.refl _ _)).i1).2.2 HL.out (AT.out.keep (Below.refl _ _)).cc).mono ?_
      rintro e wx1 ⟨v, rfl, hE, hb⟩
      refine ⟨_, rfl, ?_⟩
      obtain ⟨A5, k5, A6, k6, rfl, hO, hI⟩ := six_read hE
      clear hE
      have hB1 : Below wd.heap.size wd wx1 := hb
      clear hb
      refine hK.out _ _ ⟨(CD.out.below hB1).blk.c6, (CD.out.below hB1).blk.c7, (CD.out.below hB1).blk.c8, (CD.out.below hB1).blk.c9, (CD.out.below hB1).blk.c10, (CD.out.below hB1).blk.c11, (CD.out.below hB1).blk.c16, (CD.out.below hB1).blk.c13, (AT.out.keep hB1).c0, (AT.out.keep hB1).c1, (AT.out.keep hB1).c2⟩ (fun hHeld => ?_)
      clear hK K
      refine norm_ (a' := ?_) ?_ ?_
      rotate_left
      · show Act.put _ (some 29) _ = _
        simp only [Act.put, List.setIfInBounds_toArray, List.set_cons_zero, List.set_cons_succ, i64_w, i32_w]
        rfl
      refine pure_ (i := 20) (N := some 9) (v := ?_) (a' := ?_) #[true, true, true, true, true, true, true, true, true, true, true, true, true, true, true, true, true, true, true, true, true, false, false, false, false, false] rfl rfl (by kernel_rfl) (fun _ _ _ h => h) (Or.inl ⟨by rfl, ?_⟩) ?_ ?_
      rotate_left
      · intro w'
        go_simp
        with_reducible rfl
      rotate_left
      · simp only [Act.put, List.setIfInBounds_toArray, List.set_cons_zero, List.set_cons_succ, i64_w, i32_w]
        rfl
      refine pure_ (i := 21) (N := some 30) (v := ?_) (a' := ?_) #[true, true, true, true, true, true, true, true, true, true, true, true, true, true, true, true, true, true, true, true, true, true, false, false, false, false] rfl rfl (by kernel_rfl) (fun _ _ _ h => h) (Or.inl ⟨by rfl, ?_⟩) ?_ ?_
      rotate_left
      · intro w'
        go_simp
        with_reducible rfl
      rotate_left
      · simp only [Act.put, List.setIfInBounds_toArray, List.set_cons_zero, List.set_cons_succ, i64_w, i32_w]
        rfl
      refine pure_ (i := 22) (N := some 31) (v := ?_) (a' := ?_) #[true, true, true, true, true, true, true, true, true, true, true, true, true, true, true, true, true, true, true, true, true, true, true, false, false, false] rfl rfl (by kernel_rfl) (fun _ _ _ h => h) (Or.inl ⟨by rfl, ?_⟩) ?_ ?_
      rotate_left
      · intro w'
        go_simp
        with_reducible rfl
      rotate_left
      · simp only [Act.put, List.setIfInBounds_toArray, List.set_cons_zero, List.set_cons_succ, i64_w, i32_w]
        rfl
      refine one_ (i := 23) (N := some 7) #[true, true, true, true, true, true, true, true, true, true, true, true, true, true, true, true, true, true, true, true, true, true, true, true, false, false] rfl rfl (by kernel_rfl) (by decide) (fun K hK => ?_)
      refine value_ (w1 := ?_) (v := ?_) (by rfl) rfl ?_ ?_
      rotate_left 2
      · go_simp
        constructor
        all_goals rfl
      have hB2 : Below wd.heap.size wd (wx1.alloc (.cells #[.slice none 0 0, .int .i64 0, .int .i64 0, .slice none 0 0, .bool false, .int .i64 0] 61)) := al hB1 _
      have hZ := EBlk.new wx1 61 (.slice none 0 0) (.slice none 0 0) 0 0 0 false
      have htle : wd.heap.size ≤ wx1.heap.size := hB1.size
      replace hO := Kd.V_mono (Kd.V_alloc (Kd.V_bound hO) (.cells #[.slice none 0 0, .int .i64 0, .int .i64 0, .slice none 0 0, .bool false, .int .i64 0] 61)) (fun k hk => show wd.heap.size ≤ k ∧ k ≠ wx1.heap.size from ⟨hk.1, by have := hk.2; omega⟩)
      replace hI := Kd.V_mono (Kd.V_alloc (Kd.V_bound hI) (.cells #[.slice none 0 0, .int .i64 0, .int .i64 0, .slice none 0 0, .bool false, .int .i64 0] 61)) (fun k hk => show wd.heap.size ≤ k ∧ k ≠ wx1.heap.size from ⟨hk.1, by have := hk.2; omega⟩)
      generalize wx1.alloc (.cells #[.slice none 0 0, .int .i64 0, .int .i64 0, .slice none 0 0, .bool false, .int .i64 0] 61) = wx2 at hB2 hZ hO hI ⊢
      refine hK.out _ _ ⟨(CD.out.below hB2).blk.c6, (CD.out.below hB2).blk.c7, (CD.out.below hB2).blk.c8, (CD.out.below hB2).blk.c9, (CD.out.below hB2).blk.c10, (CD.out.below hB2).blk.c11, (CD.out.below hB2).blk.c16, (CD.out.below hB2).blk.c13, (AT.out.keep hB2).c0, (AT.out.keep hB2).c1, (AT.out.keep hB2).c2⟩ (fun hHeld => ?_)
      clear hK K
      refine norm_ (a' := ?_) ?_ ?_
      rotate_left
      · show Act.put _ (some 7) _ = _
        simp only [Act.put, List.setIfInBounds_toArray, List.set_cons_zero, List.set_cons_succ, i64_w, i32_w]
        rfl
      exact norm_ (by simp only [putAll, Act.put, List.setIfInBounds_toArray, List.set_cons_zero, List.set_cons_succ] <;> rfl) (hCont (wx1.heap.size, A5, k5, A6, k6) _ ⟨hB2, htle, hZ, hO, hI⟩)
    · skip
      refine value_ (w1 := ?_) (v := ?_) (by rfl) rfl ?_ ?_
      rotate_left 2
      · go_simp
        constructor
        all_goals rfl
      have hB1 : Below wd.heap.size wd (wd.alloc (.cells #[.slice none 0 0, .int .i64 0, .int .i64 0, .slice none 0 0, .bool false, .int .i64 0] 61)) := below_one _ _
      have hZ := EBlk.new wd 61 (.slice none 0 0) (.slice none 0 0) 0 0 0 false
      have htle : wd.heap.size ≤ wd.heap.size := Nat.le_refl _
      generalize wd.alloc (.cells #[.slice none 0 0, .int .i64 0, .int .i64 0, .slice none 0 0, .bool false, .int .i64 0] 61) = wx1 at hB1 hZ ⊢
      refine hK.out _ _ ⟨(CD.out.below hB1).blk.c6, (CD.out.below hB1).blk.c7, (CD.out.below hB1).blk.c8, (CD.out.below hB1).blk.c9, (CD.out.below hB1).blk.c10, (CD.out.below hB1).blk.c11, (CD.out.below hB1).blk.c16, (CD.out.below hB1).blk.c13, (AT.out.keep hB1).c0, (AT.out.keep hB1).c1, (AT.out.keep hB1).c2⟩ (fun hHeld => ?_)
      clear hK K
      refine norm_ (a' := ?_) ?_ ?_
      rotate_left
      · show Act.put _ (some 7) _ = _
        simp only [Act.put, List.setIfInBounds_toArray, List.set_cons_zero, List.set_cons_succ, i64_w, i32_w]
        rfl
      refine one_ (i := 19) (N := some 29) #[true, true, true, true, true, true, true, true, true, true, true, true, true, true, true, true, true, true, true, true, false, false, false, true, false, false] rfl rfl (by kernel_rfl) (by decide) (fun K hK => ?_)
      refine goes_ Try.func46 (by kernel_rfl) rfl #[.agg #[.slice AO x1.f0.length cO, .int .i64 x1.f1, .int .i64 x1.f2, .slice AI x1.f3.length cI, .bool x1.f4, .int .i64 x1.f5], .agg #[.int .i64 b.f0, .bool b.f1, .slice A2 b.f2.length k2], .int .i64 now] (by rfl) rfl rfl (by simp only [List.map_toArray, List.map_cons, List.map_nil]; rfl) ?_
      with_reducible refine (recv_lit2 HQ.out AO cO AI cI A2 k2 wx1 (Kd.V_reads' (CD.out.below hB1).o1).2.2 (Kd.V_reads' (CD.out.below hB1).i1).2.2 HL.out (AT.out.keep hB1).cc).mono ?_
      rintro e wx2 ⟨v, rfl, hE, hb⟩
      refine ⟨_, rfl, ?_⟩
      obtain ⟨A5, k5, A6, k6, rfl, hO, hI⟩ := six_read hE
      clear hE
      replace hO := Kd.V_mono hO (ok' := fun k => wd.heap.size ≤ k ∧ k ≠ wd.heap.size) (fun k hk => show wd.heap.size ≤ k ∧ k ≠ wd.heap.size from ⟨by have := hB1.size; omega, by have := heap_lt hZ; omega⟩)
      replace hI := Kd.V_mono hI (ok' := fun k => wd.heap.size ≤ k ∧ k ≠ wd.heap.size) (fun k hk => show wd.heap.size ≤ k ∧ k ≠ wd.heap.size from ⟨by have := hB1.size; omega, by have := heap_lt hZ; omega⟩)
      replace hZ := hZ.below hb
      have hB2 : Below wd.heap.size wd wx2 := bb hB1 hb
      clear hb
      refine hK.out _ _ ⟨(CD.out.below hB2).blk.c6, (CD.out.below hB2).blk.c7, (CD.out.below hB2).blk.c8, (CD.out.below hB2).blk.c9, (CD.out.below hB2).blk.c10, (CD.out.below hB2).blk.c11, (CD.out.below hB2).blk.c16, (CD.out.below hB2).blk.c13, (AT.out.keep hB2).c0, (AT.out.keep hB2).c1, (AT.out.keep hB2).c2⟩ (fun hHeld => ?_)
      clear hK K
      refine norm_ (a' := ?_) ?_ ?_
      rotate_left
      · show Act.put _ (some 29) _ = _
        simp only [Act.put, List.setIfInBounds_toArray, List.set_cons_zero, List.set_cons_succ, i64_w, i32_w]
        rfl
      refine pure_ (i := 20) (N := some 9) (v := ?_) (a' := ?_) #[true, true, true, true, true, true, true, true, true, true, true, true, true, true, true, true, true, true, true, true, true, false, false, true, false, false] rfl rfl (by kernel_rfl) (fun _ _ _ h => h) (Or.inl ⟨by rfl, ?_⟩) ?_ ?_
      rotate_left
      · intro w'
        go_simp
        with_reducible rfl
      rotate_left
      · simp only [Act.put, List.setIfInBounds_toArray, List.set_cons_zero, List.set_cons_succ, i64_w, i32_w]
        rfl
      refine pure_ (i := 21) (N := some 30) (v := ?_) (a' := ?_) #[true, true, true, true, true, true, true, true, true, true, true, true, true, true, true, true, true, true, true, true, true, true, false, true, false, false] rfl rfl (by kernel_rfl) (fun _ _ _ h => h) (Or.inl ⟨by rfl, ?_⟩) ?_ ?_
      rotate_left
      · intro w'
        go_simp
        with_reducible rfl
      rotate_left
      · simp only [Act.put, List.setIfInBounds_toArray, List.set_cons_zero, List.set_cons_succ, i64_w, i32_w]
        rfl
      refine pure_ (i := 22) (N := some 31) (v := ?_) (a' := ?_) #[true, true, true, true, true, true, true, true, true, true, true, true, true, true, true, true, true, true, true, true, true, true, true, true, false, false] rfl rfl (by kernel_rfl) (fun _ _ _ h => h) (Or.inl ⟨by rfl, ?_⟩) ?_ ?_
      rotate_left
      · intro w'
        go_simp
        with_reducible rfl
      rotate_left
      · simp only [Act.put, List.setIfInBounds_toArray, List.set_cons_zero, List.set_cons_succ, i64_w, i32_w]
        rfl
      exact norm_ (by simp only [putAll, Act.put, List.setIfInBounds_toArray, List.set_cons_zero, List.set_cons_succ] <;> rfl) (hCont (wd.heap.size, A5, k5, A6, k6) _ ⟨hB2, htle, hZ, hO, hI⟩)
  rintro ⟨t, A5, k5, A6, k6⟩ w3 ⟨hB, htle, hZ, hO, hI⟩
  have hHeld : w3.cell? ⟨g, 6, none⟩ = some (.slice AO x1.f0.length cO) ∧ w3.cell? ⟨g, 7, none⟩ = some (.int .i64 x1.f1) ∧ w3.cell? ⟨g, 8, none⟩ = some (.int .i64 x1.f2) ∧ w3.cell? ⟨g, 9, none⟩ = some (.slice AI x1.f3.length cI) ∧ w3.cell? ⟨g, 10, none⟩ = some (.bool x1.f4) ∧ w3.cell? ⟨g, 11, none⟩ = some (.int .i64 x1.f5) ∧ w3.cell? ⟨g, 16, none⟩ = some (.int .i64 now) ∧ w3.cell? ⟨g, 13, none⟩ = some (.slice (some ad) l1.length cW) ∧ w3.cell? (ad.add (i * 3)) = some (.int .i64 b.f0) ∧ w3.cell? ⟨(ad.add (i * 3)).block, (ad.add (i * 3)).off + 1, none⟩ = some (.bool b.f1) ∧ w3.cell? ⟨(ad.add (i * 3)).block, (ad.add (i * 3)).off + 2, none⟩ = some (.slice A2 b.f2.length k2) := ⟨(CD.out.below hB).blk.c6, (CD.out.below hB).blk.c7, (CD.out.below hB).blk.c8, (CD.out.below hB).blk.c9, (CD.out.below hB).blk.c10, (CD.out.below hB).blk.c11, (CD.out.below hB).blk.c16, (CD.out.below hB).blk.c13, (AT.out.keep hB).c0, (AT.out.keep hB).c1, (AT.out.keep hB).c2⟩
  refine norm_ (a' := ?_) ?_ ?_
  rotate_left
  · simp only [putAll, Act.put, List.setIfInBounds_toArray, List.set_cons_zero, List.set_cons_succ]
    rfl
  refine last_ (i := 24) (N := none) #[true, true, true, true, true, true, true, true, true, true, true, true, true, true, true, true, true, true, true, true, true, true, true, true, true, false] rfl rfl (by kernel_rfl) (by decide) (fun K hK => ?_)
  have z0 := hZ.c0; have z1 := hZ.c1; have z2 := hZ.c2; have z3 := hZ.c3; have z4 := hZ.c4; have z5 := hZ.c5; have y := blk_frozen hZ
  refine skip_ (w1 := ?_) (by rfl) rfl ?_ ?_
  rotate_left
  · go_simp
    rfl
  obtain ⟨w4, hw9, Z9, F9⟩ := six hZ (.slice A5 x.f0.length k5) x.f1 x.f2 (.slice A6 x.f3.length k6) x.f4 x.f5
  rw [← hw9]
  clear hw9 z0 z1 z2 z3 z4 z5 y
  refine hK.out _ _ ?_
  clear hK K
  refine pure_ (i := 25) (N := some 8) (v := ?_) (a' := ?_) #[true, true, true, true, true, true, true, true, true, true, true, true, true, true, true, true, true, true, true, true, true, true, true, true, true, true] rfl rfl (by kernel_rfl) (fun _ _ _ h => h) (Or.inl ⟨by rfl, ?_⟩) ?_ ?_
  rotate_left
  · intro w'
    go_simp
    with_reducible rfl
  rotate_left
  · simp only [Act.put, List.setIfInBounds_toArray, List.set_cons_zero, List.set_cons_succ, i64_w, i32_w]
    rfl
  refine done_ (by kernel_rfl) ?_

  have hB4 : Below wd.heap.size wd w4 := Fr.below F9 hB (Nat.le_refl _) (fun k hk => by omega)
  have C4 := Lib.hid (CD.out.below hB4)
  have O4 := Lib.hid (Kd.V_mono (Kd.V_step hO (fun k hk hlt => F9.same k hlt hk.2)) (fun k hk => CD.out.fresh hk.1))
  have I4 := Lib.hid (Kd.V_mono (Kd.V_step hI (fun k hk hlt => F9.same k hlt hk.2)) (fun k hk => CD.out.fresh hk.1))
  have Z4 := Lib.hid Z9
  have B4 := Lib.hid (bb HWS.out hB4)
  clear hO hI F9 hB hB4 hZ Z9 htle hHeld HQ
  by_cases hr : r = 0
  · subst hr
    go_wp2_with fail
    have B5 := Lib.hid (show Below W.heap.size W w4.drew from below_drew B4.out)
    replace C4 := Lib.hid (C4.out.below (below_drew (Below.refl _ _))); replace O4 := Lib.hid (Kd.V_drew O4.out); replace I4 := Lib.hid (Kd.V_drew I4.out); replace Z4 := Lib.hid (Z4.out.below (below_drew (Below.refl _ _)))
    refine start_ (n := 7) (S := fun w' => w'.cell? ⟨t, 0, none⟩ = some (.slice A5 x.f0.length k5) ∧ w'.cell? ⟨t, 1, none⟩ = some (.int .i64 x.f1) ∧ w'.cell? ⟨t, 2, none⟩ = some (.int .i64 x.f2) ∧ w'.cell? ⟨t, 3, none⟩ = some (.slice A6 x.f3.length k6) ∧ w'.cell? ⟨t, 4, none⟩ = some (.bool x.f4) ∧ w'.cell? ⟨t, 5, none⟩ = some (.int .i64 x.f5)) (ds := [6]) #[false, false, false, false, false, false, false] (by kernel_rfl) rfl rfl ⟨Z4.out.c0, Z4.out.c1, Z4.out.c2, Z4.out.c3, Z4.out.c4, Z4.out.c5⟩ (fun hHeld => ?_)
    generalize w4.drew = w5 at B5 C4 O4 I4 Z4 hHeld ⊢
    refine pure_ (i := 0) (N := some 34) (v := ?_) (a' := ?_) #[true, false, false, false, false, false, false] rfl rfl (by kernel_rfl) (fun _ _ _ h => h) (Or.inl ⟨by rfl, ?_⟩) ?_ ?_
    rotate_left
    · intro w'
      go_simp
      with_reducible rfl
    rotate_left
    · simp only [Act.put, List.setIfInBounds_toArray, List.set_cons_zero, List.set_cons_succ, i64_w, i32_w]
      rfl
    refine pure_ (i := 1) (N := some 35) (v := ?_) (a' := ?_) #[true, true, false, false, false, false, false] rfl rfl (by kernel_rfl) (fun _ _ _ h => h) (Or.inl ⟨by rfl, ?_⟩) ?_ ?_
    rotate_left
    · intro w'
      go_simp
      with_reducible rfl
    rotate_left
    · simp only [Act.put, List.setIfInBounds_toArray, List.set_cons_zero, List.set_cons_succ, i64_w, i32_w]
      rfl
    refine pure_ (i := 3) (N := some 37) (v := ?_) (a' := ?_) #[true, true, false, true, false, false, false] rfl rfl (by kernel_rfl) (fun _ _ _ h => h) (Or.inl ⟨by rfl, ?_⟩) ?_ ?_
    rotate_left
    · intro w'
      go_simp
      with_reducible rfl
    rotate_left
    · simp only [Act.put, List.setIfInBounds_toArray, List.set_cons_zero, List.set_cons_succ, i64_w, i32_w]
      rfl
    refine pure_ (i := 4) (N := some 38) (v := ?_) (a' := ?_) #[true, true, false, true, true, false, false] rfl rfl (by kernel_rfl) (fun _ _ _ h => h) (Or.inl ⟨by rfl, ?_⟩) ?_ ?_
    rotate_left
    · intro w'
      go_simp
      with_reducible rfl
    rotate_left
    · simp only [Act.put, List.setIfInBounds_toArray, List.set_cons_zero, List.set_cons_succ, i64_w, i32_w]
      rfl
    refine take_ (i := 2) (N := some 36) (v := ?_) (a' := ?_) #[true, true, true, true, true, false, false] rfl rfl (by kernel_rfl) (fun _ _ _ h => h) (Or.inl ⟨by rfl, ?_⟩) hHeld ?_ ?_
    rotate_left
    · rintro w' ⟨s0, s1, s2, s3, s4, s5⟩
      go_simp
      with_reducible rfl
    rotate_left
    · simp only [Act.put, List.setIfInBounds_toArray, List.set_cons_zero, List.set_cons_succ, i64_w, i32_w]
      rfl
    refine pure_ (i := 5) (N := some 39) (v := ?_) (a' := ?_) #[true, true, true, true, true, true, false] rfl rfl (by kernel_rfl) (fun _ _ _ h => h) (Or.inl ⟨by rfl, ?_⟩) ?_ ?_
    rotate_left
    · intro w'
      go_simp
      with_reducible rfl
    rotate_left
    · simp only [Act.put, List.setIfInBounds_toArray, List.set_cons_zero, List.set_cons_succ, i64_w, i32_w]
      rfl
    refine last_ (i := 6) (N := none) #[true, true, true, true, true, true, true] rfl rfl (by kernel_rfl) (by decide) (fun K hK => ?_)
    have z0 := C4.out.blk.c6; have z1 := C4.out.blk.c7; have z2 := C4.out.blk.c8; have z3 := C4.out.blk.c9; have z4 := C4.out.blk.c10; have z5 := C4.out.blk.c11; have y := blk_frozen C4.out.blk
    refine skip_ (w1 := ?_) (by rfl) rfl ?_ ?_
    rotate_left
    · go_simp
      rfl
    obtain ⟨w6, hw9, hB9, F9⟩ := C4.out.blk.end1 (.slice A5 x.f0.length k5) (.slice A6 x.f3.length k6) x
    rw [← hw9]
    clear hw9 z0 z1 z2 z3 z4 z5 y
    refine hK.out _ _ ?_
    clear hK K
    refine done_ (by kernel_rfl) ?_

    have C6 := Lib.hid (C4.out.set1 F9 hB9 O4.out I4.out)
    have FF := Lib.hid (Fr.trans (Fr.of_below B5.out (fun k => k = g)) F9 (fun _ _ h => h))
    clear C4 O4 I4 Z4 F9 hB9 hHeld
    go_wp2_with fail
    go_ret
    exact ⟨rfl, ⟨.slice A5 x.f0.length k5, .slice A6 x.f3.length k6, C6.out⟩, FF.out⟩
  · have hz : (r != 0) = true := by simpa using hr
    have HRN := Lib.hid hr
    clear hr
    go_wp2_with fail
    go_ret
    exact Or.inl ⟨HRN.out, rfl, B4.out⟩
set_option maxHeartbeats 16000000 in
set_option maxRecDepth 100000 in
/-- An operation that delivers or loses. -/
theorem step_else (w W : World) (g n : Nat) (hn : n ≤ 1000) (h : ChInv w W g n) (k e s t p : Int) (hk0 : k ≠ 0) (hk1 : k ≠ 1) :
    Calls Try.prog 38 #[.pointer (some ⟨g, 0, none⟩), .agg #[.int .i64 k, .int .i64 e, .int .i64 s, .int .i64 t, .int .i64 p]] W fun e W' => e = .returned (.bool true) ∧ ChInv w W' g (n + 1) := by
  obtain ⟨vo0, vi0, x0, vo1, vi1, x1, w0, w1, l0, l1, p0, p1, r0, r1, now, hC, hI, hl0, hl1⟩ := h
  have C := Lib.hid hC; have I := Lib.hid hI; have L0 := Lib.hid hl0; have L1 := Lib.hid hl1
  clear hC hI hl0 hl1
  obtain ⟨ee, hee⟩ : ∃ ee, ee = Go.bits .and .i64 e 1 := ⟨_, rfl⟩
  have h01 := and_1 e
  rw [← hee] at h01
  have HEE := Lib.hid hee.symm
  have hor : ee = 0 ∨ ee = 1 := by omega
  have HN := Lib.hid hn
  clear h01 hee hn
  have hk0' : (k == 0) = false := by simpa using hk0
  have hk1' : (k == 1) = false := by simpa using hk1
  rcases hor with rfl | rfl
  · have he := HEE.out
    clear hk0 hk1
    obtain ⟨AW, cW, hvw⟩ := Kd.R_slice C.out.ww0
    subst hvw
    have c12 := (C.out.below (below_one W (.cells #[.int .i64 k, .int .i64 e, .int .i64 s, .int .i64 t, .int .i64 p] 75))).blk.c12
    by_cases hz : l0.length = 0
    · rw [hz] at c12
      go_enter Try.func38, Try.ntmps38
      have O := Lib.hid (OBlk.new W k e s t p)
      have o0 := O.out.c0; have o1 := O.out.c1
      go_wp2_with fail
      go_ret
      exact ⟨rfl, _, _, _, _, _, _, _, _, _, _, _, _, _, _, _, C.out.below (below_one _ _), I.out.next, by have := L0.out; omega, by have := L1.out; omega⟩
    · have hz' : ((l0.length : Int) == 0) = false := by simp only [beq_eq_false_iff_ne]; omega
      go_enter Try.func38, Try.ntmps38
      have O := Lib.hid (OBlk.new W k e s t p)
      have o0 := O.out.c0; have o1 := O.out.c1
      go_wp2_with fail
      obtain ⟨tO, htO⟩ : ∃ tO, tO = W.heap.size := ⟨_, rfl⟩
      rw [← htO] at O
      rw [← htO]
      replace C := Lib.hid (C.out.below (below_one W (.cells #[.int .i64 k, .int .i64 e, .int .i64 s, .int .i64 t, .int .i64 p] 75)))
      clear htO o0 o1 c12
      generalize W.alloc (.cells #[.int .i64 k, .int .i64 e, .int .i64 s, .int .i64 t, .int .i64 p] 75) = w2 at C O ⊢
      replace C := Lib.hid (C.out.below (below_drew (Below.refl _ _)))
      replace O := Lib.hid (O.out.below (below_drew (Below.refl _ _)))
      refine start_ (n := 12) (S := fun w' => w'.cell? ⟨tO, 4, none⟩ = some (.int .i64 p) ∧ w'.cell? ⟨g, 12, none⟩ = some (.slice AW l0.length cW)) (ds := []) #[false, false, false, false, false, false, false, false, false, false, false, false] (by kernel_rfl) rfl rfl ⟨O.out.c4, C.out.blk.c12⟩ (fun hHeld => ?_)
      generalize w2.drew = w3 at C O hHeld ⊢
      refine pure_ (i := 0) (N := some 108) (v := ?_) (a' := ?_) #[true, false, false, false, false, false, false, false, false, false, false, false] rfl rfl (by kernel_rfl) (fun _ _ _ h => h) (Or.inl ⟨by rfl, ?_⟩) ?_ ?_
      rotate_left
      · intro w'
        go_simp
        with_reducible rfl
      rotate_left
      · simp only [Act.put, List.setIfInBounds_toArray, List.set_cons_zero, List.set_cons_succ, i64_w, i32_w]
        rfl
      refine pure_ (i := 3) (N := some 111) (v := ?_) (a' := ?_) #[true, false, false, true, false, false, false, false, false, false, false, false] rfl rfl (by kernel_rfl) (fun _ _ _ h => h) (Or.inl ⟨by rfl, ?_⟩) ?_ ?_
      rotate_left
      · intro w'
        go_simp
        with_reducible rfl
      rotate_left
      · simp only [Act.put, List.setIfInBounds_toArray, List.set_cons_zero, List.set_cons_succ, i64_w, i32_w]
        rfl
      refine pure_ (i := 4) (N := some 112) (v := ?_) (a' := ?_) #[true, false, false, true, true, false, false, false, false, false, false, false] rfl rfl (by kernel_rfl) (fun _ _ _ h => h) (Or.inl ⟨by rfl, ?_⟩) ?_ ?_
      rotate_left
      · intro w'
        go_simp
        with_reducible rfl
      rotate_left
      · simp only [Act.put, List.setIfInBounds_toArray, List.set_cons_zero, List.set_cons_succ, i64_w, i32_w]
        rfl
      refine pure_ (i := 5) (N := some 113) (v := ?_) (a' := ?_) #[true, false, false, true, true, true, false, false, false, false, false, false] rfl rfl (by kernel_rfl) (fun _ _ _ h => h) (Or.inl ⟨by rfl, ?_⟩) ?_ ?_
      rotate_left
      · intro w'
        go_simp
        with_reducible rfl
      rotate_left
      · simp only [Act.put, List.setIfInBounds_toArray, List.set_cons_zero, List.set_cons_succ, i64_w, i32_w]
        rfl
      refine pure_ (i := 6) (N := some 114) (v := ?_) (a' := ?_) #[true, false, false, true, true, true, true, false, false, false, false, false] rfl rfl (by kernel_rfl) (fun _ _ _ h => h) (Or.inl ⟨by rfl, ?_⟩) ?_ ?_
      rotate_left
      · intro w'
        go_simp
        with_reducible rfl
      rotate_left
      · simp only [Act.put, List.setIfInBounds_toArray, List.set_cons_zero, List.set_cons_succ, i64_w, i32_w]
        rfl
      refine pure_ (i := 7) (N := some 115) (v := ?_) (a' := ?_) #[true, false, false, true, true, true, true, true, false, false, false, false] rfl rfl (by kernel_rfl) (fun _ _ _ h => h) (Or.inl ⟨by rfl, ?_⟩) ?_ ?_
      rotate_left
      · intro w'
        go_simp
        with_reducible rfl
      rotate_left
      · simp only [Act.put, List.setIfInBounds_toArray, List.set_cons_zero, List.set_cons_succ, i64_w, i32_w]
        rfl
      refine take_ (i := 1) (N := some 109) (v := ?_) (a' := ?_) #[true, true, false, true, true, true, true, true, false, false, false, false] rfl rfl (by kernel_rfl) (fun _ _ _ h => h) (Or.inl ⟨by rfl, ?_⟩) hHeld ?_ ?_
      rotate_left
      · rintro w' ⟨s0, s1⟩
        go_simp
        with_reducible rfl
      rotate_left
      · simp only [Act.put, List.setIfInBounds_toArray, List.set_cons_zero, List.set_cons_succ, i64_w, i32_w]
        rfl
      refine pure_ (i := 2) (N := some 110) (v := ?_) (a' := ?_) #[true, true, true, true, true, true, true, true, false, false, false, false] rfl rfl (by kernel_rfl) (fun _ _ _ h => h) (Or.inl ⟨by rfl, ?_⟩) ?_ ?_
      rotate_left
      · intro w'
        go_simp
        with_reducible rfl
      rotate_left
      · simp only [Act.put, List.setIfInBounds_toArray, List.set_cons_zero, List.set_cons_succ, i64_w, i32_w]
        rfl
      refine take_ (i := 8) (N := some 116) (v := ?_) (a' := ?_) #[true, true, true, true, true, true, true, true, true, false, false, false] rfl rfl (by kernel_rfl) (fun _ _ _ h => h) (Or.inl ⟨by rfl, ?_⟩) hHeld ?_ ?_
      rotate_left
      · rintro w' ⟨s0, s1⟩
        go_simp
        with_reducible rfl
      rotate_left
      · simp only [Act.put, List.setIfInBounds_toArray, List.set_cons_zero, List.set_cons_succ, i64_w, i32_w]
        rfl
      refine pure_ (i := 9) (N := some 117) (v := ?_) (a' := ?_) #[true, true, true, true, true, true, true, true, true, true, false, false] rfl rfl (by kernel_rfl) (fun _ _ _ h => h) (Or.inl ⟨by rfl, ?_⟩) ?_ ?_
      rotate_left
      · intro w'
        go_simp
        with_reducible rfl
      rotate_left
      · simp only [Act.put, List.setIfInBounds_toArray, List.set_cons_zero, List.set_cons_succ, i64_w, i32_w]
        rfl
      refine pure_ (i := 10) (N := some 118) (v := ?_) (a' := ?_) #[true, true, true, true, true, true, true, true, true, true, true, false] rfl rfl (by kernel_rfl) (fun _ _ _ h => h) (Or.inl ⟨by rfl, ?_⟩) ?_ ?_
      rotate_left
      · intro w'
        go_simp
        with_reducible rfl
      rotate_left
      · simp only [Act.put, List.setIfInBounds_toArray, List.set_cons_zero, List.set_cons_succ, i64_w, i32_w]
        rfl
      refine pure_ (i := 11) (N := some 10) (v := ?_) (a' := ?_) #[true, true, true, true, true, true, true, true, true, true, true, true] rfl rfl (by kernel_rfl) (fun _ _ _ h => h) (Or.inl ⟨by rfl, ?_⟩) ?_ ?_
      rotate_left
      · intro w'
        go_simp
        with_reducible rfl
      rotate_left
      · simp only [Act.put, List.setIfInBounds_toArray, List.set_cons_zero, List.set_cons_succ, i64_w, i32_w]
        rfl
      refine done_ (by kernel_rfl) ?_

      obtain ⟨i, hi, hlt⟩ := pick_ex p hz
      rw [hi]
      have HLT := Lib.hid hlt
      have o0 := O.out.c0
      clear hi hHeld hlt hz hz'
      by_cases h3 : k = 3
      · subst h3
        go_wp2_with fail
        refine (loseCh0 w w3 g _ _ _ _ _ _ _ _ _ _ _ _ _ _ _ C.out i HLT.out (by have := L0.out; have := HN.out; omega)).mono ?_
        rintro e' w5 ⟨rfl, wv, hC⟩
        have C5 := Lib.hid hC
        clear hC
        go_wp2_with fail
        go_ret
        exact ⟨rfl, _, _, _, _, _, _, _, _, _, _, _, _, _, _, _, C5.out, (I.out.lose0 (fun b hb => mem_lose hb)).next, lose_len _ _ _ (by have := L0.out; omega), by have := L1.out; omega⟩
      · have h3' : (k == 3) = false := by simpa using h3
        have h3n : (k != 3) = true := by simpa using h3
        obtain ⟨x, hq, hI⟩ := I.out.deliver (by have := HN.out; omega) (l0[i]'HLT.out) (List.getElem_mem HLT.out)
        obtain ⟨B1, F1, E1, d1, hB1⟩ := I.out.d1
        have hs := (d1.small hB1).1
        have HQ := Lib.hid hq; have I5 := Lib.hid hI; have HS := Lib.hid hs
        clear h3 hq hI d1 hB1 hs
        go_wp2_with fail
        refine (delF0 w w3 g _ _ _ _ _ _ _ _ _ _ _ _ _ _ _ C.out (by have := HS.out; have := HN.out; omega) i HLT.out (by have := L0.out; have := HN.out; omega) _ rfl x 0 HQ.out).mono ?_
        rintro e' w5 (⟨hne, _⟩ | ⟨_, rfl, ⟨vo, vi, hC⟩, hF⟩)
        · exact absurd rfl hne
        have C5 := Lib.hid hC
        clear hC o0
        have hgO : tO ≠ g := fun e => by have h1 := O.out; have h2 := C.out.blk; rw [e] at h1; exact absurd rfl (blk_ne h1 h2 (by decide))
        replace O := Lib.hid (show OBlk w5 tO k e s t p from hF.blk O.out hgO)
        clear hF hgO
        have o0 := O.out.c0
        by_cases h4 : k = 4
        · subst h4
          go_wp2_with fail
          go_ret
          exact ⟨rfl, _, _, _, _, _, _, _, _, _, _, _, _, _, _, _, C5.out, I5.out.next, by have := L0.out; omega, by have := L1.out; omega⟩
        · have h4' : (k == 4) = false := by simpa using h4
          have h4n : (k != 4) = true := by simpa using h4
          clear h4
          go_wp2_with fail
          refine (loseCh0 w w5 g _ _ _ _ _ _ _ _ _ _ _ _ _ _ _ C5.out i HLT.out (by have := L0.out; have := HN.out; omega)).mono ?_
          rintro e' w6 ⟨rfl, wv, hC⟩
          have C6 := Lib.hid hC
          clear hC
          go_wp2_with fail
          go_ret
          exact ⟨rfl, _, _, _, _, _, _, _, _, _, _, _, _, _, _, _, C6.out, (I5.out.lose0 (fun b hb => mem_lose hb)).next, lose_len _ _ _ (by have := L0.out; omega), by have := L1.out; omega⟩
  · have he := HEE.out
    clear hk0 hk1
    obtain ⟨AW, cW, hvw⟩ := Kd.R_slice C.out.ww1
    subst hvw
    have c12 := (C.out.below (below_one W (.cells #[.int .i64 k, .int .i64 e, .int .i64 s, .int .i64 t, .int .i64 p] 75))).blk.c13
    by_cases hz : l1.length = 0
    · rw [hz] at c12
      go_enter Try.func38, Try.ntmps38
      have O := Lib.hid (OBlk.new W k e s t p)
      have o0 := O.out.c0; have o1 := O.out.c1
      go_wp2_with fail
      go_ret
      exact ⟨rfl, _, _, _, _, _, _, _, _, _, _, _, _, _, _, _, C.out.below (below_one _ _), I.out.next, by have := L0.out; omega, by have := L1.out; omega⟩
    · have hz' : ((l1.length : Int) == 0) = false := by simp only [beq_eq_false_iff_ne]; omega
      go_enter Try.func38, Try.ntmps38
      have O := Lib.hid (OBlk.new W k e s t p)
      have o0 := O.out.c0; have o1 := O.out.c1
      go_wp2_with fail
      obtain ⟨tO, htO⟩ : ∃ tO, tO = W.heap.size := ⟨_, rfl⟩
      rw [← htO] at O
      rw [← htO]
      replace C := Lib.hid (C.out.below (below_one W (.cells #[.int .i64 k, .int .i64 e, .int .i64 s, .int .i64 t, .int .i64 p] 75)))
      clear htO o0 o1 c12
      generalize W.alloc (.cells #[.int .i64 k, .int .i64 e, .int .i64 s, .int .i64 t, .int .i64 p] 75) = w2 at C O ⊢
      replace C := Lib.hid (C.out.below (below_drew (Below.refl _ _)))
      replace O := Lib.hid (O.out.below (below_drew (Below.refl _ _)))
      refine start_ (n := 12) (S := fun w' => w'.cell? ⟨tO, 4, none⟩ = some (.int .i64 p) ∧ w'.cell? ⟨g, 13, none⟩ = some (.slice AW l1.length cW)) (ds := []) #[false, false, false, false, false, false, false, false, false, false, false, false] (by kernel_rfl) rfl rfl ⟨O.out.c4, C.out.blk.c13⟩ (fun hHeld => ?_)
      generalize w2.drew = w3 at C O hHeld ⊢
      refine pure_ (i := 0) (N := some 108) (v := ?_) (a' := ?_) #[true, false, false, false, false, false, false, false, false, false, false, false] rfl rfl (by kernel_rfl) (fun _ _ _ h => h) (Or.inl ⟨by rfl, ?_⟩) ?_ ?_
      rotate_left
      · intro w'
        go_simp
        with_reducible rfl
      rotate_left
      · simp only [Act.put, List.setIfInBounds_toArray, List.set_cons_zero, List.set_cons_succ, i64_w, i32_w]
        rfl
      refine pure_ (i := 3) (N := some 111) (v := ?_) (a' := ?_) #[true, false, false, true, false, false, false, false, false, false, false, false] rfl rfl (by kernel_rfl) (fun _ _ _ h => h) (Or.inl ⟨by rfl, ?_⟩) ?_ ?_
      rotate_left
      · intro w'
        go_simp
        with_reducible rfl
      rotate_left
      · simp only [Act.put, List.setIfInBounds_toArray, List.set_cons_zero, List.set_cons_succ, i64_w, i32_w]
        rfl
      refine pure_ (i := 4) (N := some 112) (v := ?_) (a' := ?_) #[true, false, false, true, true, false, false, false, false, false, false, false] rfl rfl (by kernel_rfl) (fun _ _ _ h => h) (Or.inl ⟨by rfl, ?_⟩) ?_ ?_
      rotate_left
      · intro w'
        go_simp
        with_reducible rfl
      rotate_left
      · simp only [Act.put, List.setIfInBounds_toArray, List.set_cons_zero, List.set_cons_succ, i64_w, i32_w]
        rfl
      refine pure_ (i := 5) (N := some 113) (v := ?_) (a' := ?_) #[true, false, false, true, true, true, false, false, false, false, false, false] rfl rfl (by kernel_rfl) (fun _ _ _ h => h) (Or.inl ⟨by rfl, ?_⟩) ?_ ?_
      rotate_left
      · intro w'
        go_simp
        with_reducible rfl
      rotate_left
      · simp only [Act.put, List.setIfInBounds_toArray, List.set_cons_zero, List.set_cons_succ, i64_w, i32_w]
        rfl
      refine pure_ (i := 6) (N := some 114) (v := ?_) (a' := ?_) #[true, false, false, true, true, true, true, false, false, false, false, false] rfl rfl (by kernel_rfl) (fun _ _ _ h => h) (Or.inl ⟨by rfl, ?_⟩) ?_ ?_
      rotate_left
      · intro w'
        go_simp
        with_reducible rfl
      rotate_left
      · simp only [Act.put, List.setIfInBounds_toArray, List.set_cons_zero, List.set_cons_succ, i64_w, i32_w]
        rfl
      refine pure_ (i := 7) (N := some 115) (v := ?_) (a' := ?_) #[true, false, false, true, true, true, true, true, false, false, false, false] rfl rfl (by kernel_rfl) (fun _ _ _ h => h) (Or.inl ⟨by rfl, ?_⟩) ?_ ?_
      rotate_left
      · intro w'
        go_simp
        with_reducible rfl
      rotate_left
      · simp only [Act.put, List.setIfInBounds_toArray, List.set_cons_zero, List.set_cons_succ, i64_w, i32_w]
        rfl
      refine take_ (i := 1) (N := some 109) (v := ?_) (a' := ?_) #[true, true, false, true, true, true, true, true, false, false, false, false] rfl rfl (by kernel_rfl) (fun _ _ _ h => h) (Or.inl ⟨by rfl, ?_⟩) hHeld ?_ ?_
      rotate_left
      · rintro w' ⟨s0, s1⟩
        go_simp
        with_reducible rfl
      rotate_left
      · simp only [Act.put, List.setIfInBounds_toArray, List.set_cons_zero, List.set_cons_succ, i64_w, i32_w]
        rfl
      refine pure_ (i := 2) (N := some 110) (v := ?_) (a' := ?_) #[true, true, true, true, true, true, true, true, false, false, false, false] rfl rfl (by kernel_rfl) (fun _ _ _ h => h) (Or.inl ⟨by rfl, ?_⟩) ?_ ?_
      rotate_left
      · intro w'
        go_simp
        with_reducible rfl
      rotate_left
      · simp only [Act.put, List.setIfInBounds_toArray, List.set_cons_zero, List.set_cons_succ, i64_w, i32_w]
        rfl
      refine take_ (i := 8) (N := some 116) (v := ?_) (a' := ?_) #[true, true, true, true, true, true, true, true, true, false, false, false] rfl rfl (by kernel_rfl) (fun _ _ _ h => h) (Or.inl ⟨by rfl, ?_⟩) hHeld ?_ ?_
      rotate_left
      · rintro w' ⟨s0, s1⟩
        go_simp
        with_reducible rfl
      rotate_left
      · simp only [Act.put, List.setIfInBounds_toArray, List.set_cons_zero, List.set_cons_succ, i64_w, i32_w]
        rfl
      refine pure_ (i := 9) (N := some 117) (v := ?_) (a' := ?_) #[true, true, true, true, true, true, true, true, true, true, false, false] rfl rfl (by kernel_rfl) (fun _ _ _ h => h) (Or.inl ⟨by rfl, ?_⟩) ?_ ?_
      rotate_left
      · intro w'
        go_simp
        with_reducible rfl
      rotate_left
      · simp only [Act.put, List.setIfInBounds_toArray, List.set_cons_zero, List.set_cons_succ, i64_w, i32_w]
        rfl
      refine pure_ (i := 10) (N := some 118) (v := ?_) (a' := ?_) #[true, true, true, true, true, true, true, true, true, true, true, false] rfl rfl (by kernel_rfl) (fun _ _ _ h => h) (Or.inl ⟨by rfl, ?_⟩) ?_ ?_
      rotate_left
      · intro w'
        go_simp
        with_reducible rfl
      rotate_left
      · simp only [Act.put, List.setIfInBounds_toArray, List.set_cons_zero, List.set_cons_succ, i64_w, i32_w]
        rfl
      refine pure_ (i := 11) (N := some 10) (v := ?_) (a' := ?_) #[true, true, true, true, true, true, true, true, true, true, true, true] rfl rfl (by kernel_rfl) (fun _ _ _ h => h) (Or.inl ⟨by rfl, ?_⟩) ?_ ?_
      rotate_left
      · intro w'
        go_simp
        with_reducible rfl
      rotate_left
      · simp only [Act.put, List.setIfInBounds_toArray, List.set_cons_zero, List.set_cons_succ, i64_w, i32_w]
        rfl
      refine done_ (by kernel_rfl) ?_

      obtain ⟨i, hi, hlt⟩ := pick_ex p hz
      rw [hi]
      have HLT := Lib.hid hlt
      have o0 := O.out.c0
      clear hi hHeld hlt hz hz'
      by_cases h3 : k = 3
      · subst h3
        go_wp2_with fail
        refine (loseCh1 w w3 g _ _ _ _ _ _ _ _ _ _ _ _ _ _ _ C.out i HLT.out (by have := L1.out; have := HN.out; omega)).mono ?_
        rintro e' w5 ⟨rfl, wv, hC⟩
        have C5 := Lib.hid hC
        clear hC
        go_wp2_with fail
        go_ret
        exact ⟨rfl, _, _, _, _, _, _, _, _, _, _, _, _, _, _, _, C5.out, (I.out.swap.lose0 (fun b hb => mem_lose hb)).swap.next, by have := L0.out; omega, lose_len _ _ _ (by have := L1.out; omega)⟩
      · have h3' : (k == 3) = false := by simpa using h3
        have h3n : (k != 3) = true := by simpa using h3
        obtain ⟨x, hq, hI⟩ := I.out.swap.deliver (by have := HN.out; omega) (l1[i]'HLT.out) (List.getElem_mem HLT.out)
        obtain ⟨B1, F1, E1, d1, hB1⟩ := I.out.d0
        have hs := (d1.small hB1).1
        have HQ := Lib.hid hq; have I5 := Lib.hid hI; have HS := Lib.hid hs
        clear h3 hq hI d1 hB1 hs
        go_wp2_with fail
        refine (delF1 w w3 g _ _ _ _ _ _ _ _ _ _ _ _ _ _ _ C.out (by have := HS.out; have := HN.out; omega) i HLT.out (by have := L1.out; have := HN.out; omega) _ rfl x 0 HQ.out).mono ?_
        rintro e' w5 (⟨hne, _⟩ | ⟨_, rfl, ⟨vo, vi, hC⟩, hF⟩)
        · exact absurd rfl hne
        have C5 := Lib.hid hC
        clear hC o0
        have hgO : tO ≠ g := fun e => by have h1 := O.out; have h2 := C.out.blk; rw [e] at h1; exact absurd rfl (blk_ne h1 h2 (by decide))
        replace O := Lib.hid (show OBlk w5 tO k e s t p from hF.blk O.out hgO)
        clear hF hgO
        have o0 := O.out.c0
        by_cases h4 : k = 4
        · subst h4
          go_wp2_with fail
          go_ret
          exact ⟨rfl, _, _, _, _, _, _, _, _, _, _, _, _, _, _, _, C5.out, I5.out.swap.next, by have := L0.out; omega, by have := L1.out; omega⟩
        · have h4' : (k == 4) = false := by simpa using h4
          have h4n : (k != 4) = true := by simpa using h4
          clear h4
          go_wp2_with fail
          refine (loseCh1 w w5 g _ _ _ _ _ _ _ _ _ _ _ _ _ _ _ C5.out i HLT.out (by have := L1.out; have := HN.out; omega)).mono ?_
          rintro e' w6 ⟨rfl, wv, hC⟩
          have C6 := Lib.hid hC
          clear hC
          go_wp2_with fail
          go_ret
          exact ⟨rfl, _, _, _, _, _, _, _, _, _, _, _, _, _, _, _, C6.out, (I5.out.lose0 (fun b hb => mem_lose hb)).swap.next, by have := L0.out; omega, lose_len _ _ _ (by have := L1.out; omega)⟩
end Go.Proofs.Ytbfhohpbldadbaa.P

namespace Go.Proofs.Ytbfhohpbldadbaa.P
open Go Go.RowKit Go.Proofs.YtbfhohpbldadbaaW.PrintWords Go.Proofs.YtbfhohpbldadbaaW.PrintLast Go.Proofs.YtbfhohpbldadbaaW.PrintMore
set_option linter.unusedVariables false
set_option linter.unusedSimpArgs false
/-- Offer, at what it gives. -/
theorem offer_lit {c : S61} {recs : List S39} {x : S61} {r : Int} (h : offF c recs = (x, r)) (A0 : Option Addr) (c0 : Nat) (A3 : Option Addr) (c3 : Nat) (Ar : Option Addr) (cr : Nat) (w : World) (hr : Kd.C kL w A0 c.f0.length c.f0) (hr3 : Kd.C k39 w A3 c.f3.length c.f3) (hl : c.f3.length ≤ 1000000) (hrr : Kd.C k39 w Ar recs.length recs) :
    Calls Try.prog 35 #[.agg #[.slice A0 c.f0.length c0, .int .i64 c.f1, .int .i64 c.f2, .slice A3 c.f3.length c3, .bool c.f4, .int .i64 c.f5], .slice Ar recs.length cr] w (Off2 x r w) := by
  have hc := offer_calls A0 c0 A3 c3 c Ar cr recs w hr hr3 hl hrr
  rw [h] at hc
  exact hc
def recN (n e : Int) : S39 := ⟨n, 0, 0, ⟨#[]⟩, 0, 0, 0, e⟩
theorem snoc_len (q : List S39) (x : S39) (h : q.length ≤ 10) : wrap64 ((q.length : Int) + 1) = (((q ++ [x]).length : Nat) : Int) := by
  rw [List.length_append, List.length_singleton, wid (by omega) (by omega)]; rfl
theorem off_sz {n m : Nat} (h : n ≤ 100000) (h2 : m ≤ 10) : (n + m) * 72 ≤ 140737488355328 := by omega
set_option maxHeartbeats 16000000 in
set_option maxRecDepth 100000 in
/-- An operation that offers. -/
theorem step_zero (w W : World) (g n : Nat) (hn : n ≤ 1000) (h : ChInv w W g n) (e s t p : Int) :
    Calls Try.prog 38 #[.pointer (some ⟨g, 0, none⟩), .agg #[.int .i64 0, .int .i64 e, .int .i64 s, .int .i64 t, .int .i64 p]] W fun e W' => e = .returned (.bool true) ∧ ChInv w W' g (n + 1) := by
  obtain ⟨vo0, vi0, x0, vo1, vi1, x1, w0, w1, l0, l1, p0, p1, r0, r1, now, hC, hI, hl0, hl1⟩ := h
  have I := Lib.hid hI; have L0 := Lib.hid hl0; have L1 := Lib.hid hl1
  obtain ⟨B0, F0, E0, d0, hB0⟩ := hI.d0
  obtain ⟨B1, F1, E1, d1, hB1⟩ := hI.d1
  have S0 := Lib.hid (d0.small hB0); have S1 := Lib.hid (d1.small hB1)
  clear hI hl0 hl1 d0 d1 hB0 hB1
  obtain ⟨ee, hee⟩ : ∃ ee, ee = Go.bits .and .i64 e 1 := ⟨_, rfl⟩
  have h01 := and_1 e
  rw [← hee] at h01
  have HEE := Lib.hid hee.symm
  have hor : ee = 0 ∨ ee = 1 := by omega
  obtain ⟨s3, hs3⟩ : ∃ s3, s3 = Go.bits .and .i64 s 3 := ⟨_, rfl⟩
  have h02 := and_2b s
  rw [← hs3] at h02
  have HS3 := Lib.hid hs3.symm; have S3R := Lib.hid h02
  have HN := Lib.hid hn
  clear h01 hee hn hs3 h02
  rcases hor with rfl | rfl
  · have he := HEE.out
    obtain ⟨AO, cO, hvo⟩ := Kd.V_slice hC.o0
    obtain ⟨AI, cI, hvi⟩ := Kd.V_slice hC.i0
    obtain ⟨AP, cP, hvp⟩ := Kd.R_slice hC.pp0
    subst hvo hvi
    have C := Lib.hid hC; have HVP := Lib.hid hvp
    clear hC hvp
    go_enter Try.func38, Try.ntmps38
    have O := Lib.hid (OBlk.new W 0 e s t p)
    have o0 := O.out.c0; have o1 := O.out.c1
    go_wp2_with fail
    obtain ⟨tO, htO⟩ : ∃ tO, tO = W.heap.size := ⟨_, rfl⟩
    rw [← htO] at O
    rw [← htO]
    replace C := Lib.hid (C.out.below (below_one W (.cells #[.int .i64 0, .int .i64 e, .int .i64 s, .int .i64 t, .int .i64 p] 75)))
    clear htO o0 o1
    generalize W.alloc (.cells #[.int .i64 0, .int .i64 e, .int .i64 s, .int .i64 t, .int .i64 p] 75) = w2 at C O ⊢
    go_loopw [6, 7] (fun v6 v7 Wc => ∃ q : List S39, v7 = .int .i64 (q.length : Int) ∧ (q.length : Int) ≤ s3 + 1 ∧ Kd.R k39 39 Wc w2.heap.size (fun _ => True) v6 q ∧ Below w2.heap.size w2 Wc) (fun _ i _ => 5 - (intOf i).toNat)
    case atStart => exact ⟨[], rfl, by have := S3R.out; simp only [List.length_nil]; omega, Kd.R_nil _ _ _ _ _, Below.refl _ _⟩
    case round =>
      obtain ⟨q, rfl, hq, hR, hb⟩ := hrel
      obtain ⟨A6, c6, hv6⟩ := Kd.R_slice hR
      have Q := Lib.hid hR; have B := Lib.hid hb; have HQ := Lib.hid hq; have HV6 := Lib.hid hv6
      have Ow := Lib.hid (O.out.below hb); have Cw := Lib.hid (C.out.below hb)
      clear hR hb hq hv6
      have o2 := Ow.out.c2
      have hs3 := HS3.out
      by_cases hlt : (q.length : Int) ≤ s3
      · have cp := Cw.out.blk.c14
        rw [HVP.out] at cp
        have hq4 : q.length ≤ 4 := by have := S3R.out; omega
        have HQ4 := Lib.hid hq4; have HLT := Lib.hid hlt
        clear hq4
        go_wp2_with ((with_reducible refine gate_builtin (b := .append) (xs := #[.tmp 24, .tmp 36]) rfl ?_); at_builtin; refine Kd.R_append_rows (Rr := k39.K (wr.alloc (.cells #[.int .i64 (wrap64 ((r0.length : Int) + (q.length : Int))), .int .i64 0, .int .i64 0, .string ⟨#[]⟩, .int .i64 0, .int .i64 0, .int .i64 0, .int .i64 0] 39))) k39 (w0 := w2) w2.heap.size rfl (.tmp 24) (.tmp 36) 28 39 (.agg #[(.int .i64 0), (.int .i64 0), (.int .i64 0), (.string ⟨#[]⟩), (.int .i64 0), (.int .i64 0), (.int .i64 0), (.int .i64 0)]) 72 rfl Try.underlying28 info39 rfl (by decide) (by decide) u6 q [recN (wrap64 ((r0.length : Int) + (q.length : Int))) 0] (some ⟨wr.heap.size, 0, none⟩) 1 1 (fun _ => True) (fun _ => False) rfl rfl (Kd.R_alloc Q.out _) (C1R wr (recN (wrap64 ((r0.length : Int) + (q.length : Int))) 0)) (fun y cs h => k39_open h ▸ k39_mkM _ _ _ y) (fun _ h => h.elim) (fun _ _ => trivial) (al B.out _) (Nat.le_trans B.out.size (below_one _ _).size) (off_sz (by have := HQ4.out; omega) (by decide)) ?_; intro v3 w5 ho5 hb5 hg5 hat5)
        go_roundw
        case rel =>
          exact ⟨q ++ [recN (wrap64 ((r0.length : Int) + (q.length : Int))) 0], congrArg (Value.int .i64) (snoc_len q _ (by have := HQ4.out; omega)), by have := HLT.out; rw [List.length_append, List.length_singleton]; omega, ho5, hb5⟩
        case measure =>
          have := HQ4.out
          rw [snoc_len q (recN 0 0) (by omega), List.length_append, List.length_singleton]
          simp only [intOf]
          omega
      · have hqs : (q.length : Int) = s3 + 1 := by have := HQ.out; omega
        have hq1 : 1 ≤ q.length := by have := S3R.out; omega
        have hq2 : q.length ≤ 4 := by have := S3R.out; omega
        have HQ4 := Lib.hid hq2
        have hrq := Q.out
        rw [HV6.out] at hrq
        have HQC := Lib.hid (Kd.R_reads' hrq).2.2
        rw [HV6.out]
        rcases I.out.offer (by have := HN.out; omega) q hq1 hq2 with ⟨ho, h64⟩ | ⟨x, ho, hI2⟩
        · have HO := Lib.hid ho; have H64 := Lib.hid h64
          clear hq1 hq2 hqs hrq ho h64
          have d0 := Cw.out.blk.c0
          have d1 := Cw.out.blk.c1
          have d2 := Cw.out.blk.c2
          have d3 := Cw.out.blk.c3
          have d4 := Cw.out.blk.c4
          have d5 := Cw.out.blk.c5
          go_wp2_with fail
          refine (offer_lit HO.out AO cO AI cI A6 c6 _ (Kd.V_reads' Cw.out.o0).2.2 (Kd.V_reads' Cw.out.i0).2.2 (by have := S1.out.1; have := HN.out; omega) HQC.out).mono ?_
          rintro e' w3 ⟨v, rfl, hE, hb3⟩
          obtain ⟨A5, k5, A8, k8, rfl, hO, hI⟩ := six_read hE
          have C3 := Lib.hid (Cw.out.below hb3)
          clear hE hb3 hO hI d0 d1 d2 d3 d4 d5
          have cz := fun o => (C3.out.below (below_one w3 o)).blk.c0
          have hz : ((x0.f0.length : Int) == 64) = true := by have := H64.out; simp only [beq_iff_eq]; omega
          go_wp2_with fail
          go_ret
          exact ⟨rfl, _, _, _, _, _, _, _, _, _, _, _, _, _, _, _, C3.out.below (below_one _ _), I.out.next, by have := L0.out; omega, by have := L1.out; omega⟩
        · have HO := Lib.hid ho; have I2 := Lib.hid hI2
          clear hq1 hq2 hqs hrq ho hI2
          have d0 := Cw.out.blk.c0
          have d1 := Cw.out.blk.c1
          have d2 := Cw.out.blk.c2
          have d3 := Cw.out.blk.c3
          have d4 := Cw.out.blk.c4
          have d5 := Cw.out.blk.c5
          go_wp2_with fail
          refine (offer_lit HO.out AO cO AI cI A6 c6 _ (Kd.V_reads' Cw.out.o0).2.2 (Kd.V_reads' Cw.out.i0).2.2 (by have := S1.out.1; have := HN.out; omega) HQC.out).mono ?_
          rintro e' w3 ⟨v, rfl, hE, hb3⟩
          obtain ⟨A5, k5, A8, k8, rfl, hO, hI⟩ := six_read hE
          have C3 := Lib.hid (Cw.out.below hb3)
          have O3 := Lib.hid (Kd.V_mono hO (fun k hk => Cw.out.fresh hk)); have I3 := Lib.hid (Kd.V_mono hI (fun k hk => Cw.out.fresh hk))
          have Q3 := Lib.hid (Kd.R_mono (Kd.R_bound (Kd.R_below Q.out hb3)) (ok' := fun k => w2.heap.size ≤ k) (fun k hk => hk.2.1))
          rw [HV6.out] at Q3
          clear hE hb3 hO hI d0 d1 d2 d3 d4 d5
          go_wp2_with fail
          obtain ⟨t8, ht8⟩ : ∃ t8, t8 = w3.heap.size := ⟨_, rfl⟩
          have Z4 := Lib.hid (EBlk.new w3 61 (.slice A5 x.f0.length k5) (.slice A8 x.f3.length k8) x.f1 x.f2 x.f5 x.f4)
          rw [← ht8] at Z4
          rw [← ht8]
          have C4 := Lib.hid (C3.out.below (below_one w3 (.cells #[.slice A5 x.f0.length k5, .int .i64 x.f1, .int .i64 x.f2, .slice A8 x.f3.length k8, .bool x.f4, .int .i64 x.f5] 61)))
          have O4 := Lib.hid (Kd.V_below O3.out (below_one w3 (.cells #[.slice A5 x.f0.length k5, .int .i64 x.f1, .int .i64 x.f2, .slice A8 x.f3.length k8, .bool x.f4, .int .i64 x.f5] 61))); have I4 := Lib.hid (Kd.V_below I3.out (below_one w3 (.cells #[.slice A5 x.f0.length k5, .int .i64 x.f1, .int .i64 x.f2, .slice A8 x.f3.length k8, .bool x.f4, .int .i64 x.f5] 61))); have V4 := Lib.hid (Kd.R_below Q3.out (below_one w3 (.cells #[.slice A5 x.f0.length k5, .int .i64 x.f1, .int .i64 x.f2, .slice A8 x.f3.length k8, .bool x.f4, .int .i64 x.f5] 61)))
          clear C3 O3 I3 Q3 ht8
          generalize w3.alloc (.cells #[.slice A5 x.f0.length k5, .int .i64 x.f1, .int .i64 x.f2, .slice A8 x.f3.length k8, .bool x.f4, .int .i64 x.f5] 61) = w4 at C4 O4 I4 V4 Z4 ⊢
          replace C4 := Lib.hid (C4.out.below (below_drew (Below.refl _ _))); replace O4 := Lib.hid (Kd.V_drew O4.out); replace I4 := Lib.hid (Kd.V_drew I4.out); replace V4 := Lib.hid (Kd.R_drew V4.out); replace Z4 := Lib.hid (Z4.out.below (below_drew (Below.refl _ _)))
          refine start_ (n := 7) (S := fun w' => w'.cell? ⟨t8, 0, none⟩ = some (.slice A5 x.f0.length k5) ∧ w'.cell? ⟨t8, 1, none⟩ = some (.int .i64 x.f1) ∧ w'.cell? ⟨t8, 2, none⟩ = some (.int .i64 x.f2) ∧ w'.cell? ⟨t8, 3, none⟩ = some (.slice A8 x.f3.length k8) ∧ w'.cell? ⟨t8, 4, none⟩ = some (.bool x.f4) ∧ w'.cell? ⟨t8, 5, none⟩ = some (.int .i64 x.f5)) (ds := [6]) #[false, false, false, false, false, false, false] (by kernel_rfl) rfl rfl ⟨Z4.out.c0, Z4.out.c1, Z4.out.c2, Z4.out.c3, Z4.out.c4, Z4.out.c5⟩ (fun hHeld => ?_)
          generalize w4.drew = w5 at C4 O4 I4 V4 Z4 hHeld ⊢
          refine pure_ (i := 0) (N := some 64) (v := ?_) (a' := ?_) #[true, false, false, false, false, false, false] rfl rfl (by kernel_rfl) (fun _ _ _ h => h) (Or.inl ⟨by rfl, ?_⟩) ?_ ?_
          rotate_left
          · intro w'
            go_simp
            with_reducible rfl
          rotate_left
          · simp only [Act.put, List.setIfInBounds_toArray, List.set_cons_zero, List.set_cons_succ, i64_w, i32_w]
            rfl
          refine pure_ (i := 1) (N := some 65) (v := ?_) (a' := ?_) #[true, true, false, false, false, false, false] rfl rfl (by kernel_rfl) (fun _ _ _ h => h) (Or.inl ⟨by rfl, ?_⟩) ?_ ?_
          rotate_left
          · intro w'
            go_simp
            with_reducible rfl
          rotate_left
          · simp only [Act.put, List.setIfInBounds_toArray, List.set_cons_zero, List.set_cons_succ, i64_w, i32_w]
            rfl
          refine pure_ (i := 3) (N := some 67) (v := ?_) (a' := ?_) #[true, true, false, true, false, false, false] rfl rfl (by kernel_rfl) (fun _ _ _ h => h) (Or.inl ⟨by rfl, ?_⟩) ?_ ?_
          rotate_left
          · intro w'
            go_simp
            with_reducible rfl
          rotate_left
          · simp only [Act.put, List.setIfInBounds_toArray, List.set_cons_zero, List.set_cons_succ, i64_w, i32_w]
            rfl
          refine pure_ (i := 4) (N := some 68) (v := ?_) (a' := ?_) #[true, true, false, true, true, false, false] rfl rfl (by kernel_rfl) (fun _ _ _ h => h) (Or.inl ⟨by rfl, ?_⟩) ?_ ?_
          rotate_left
          · intro w'
            go_simp
            with_reducible rfl
          rotate_left
          · simp only [Act.put, List.setIfInBounds_toArray, List.set_cons_zero, List.set_cons_succ, i64_w, i32_w]
            rfl
          refine take_ (i := 2) (N := some 66) (v := ?_) (a' := ?_) #[true, true, true, true, true, false, false] rfl rfl (by kernel_rfl) (fun _ _ _ h => h) (Or.inl ⟨by rfl, ?_⟩) hHeld ?_ ?_
          rotate_left
          · rintro w' ⟨s0, s1, s2, s3, s4, s5⟩
            go_simp
            with_reducible rfl
          rotate_left
          · simp only [Act.put, List.setIfInBounds_toArray, List.set_cons_zero, List.set_cons_succ, i64_w, i32_w]
            rfl
          refine pure_ (i := 5) (N := some 69) (v := ?_) (a' := ?_) #[true, true, true, true, true, true, false] rfl rfl (by kernel_rfl) (fun _ _ _ h => h) (Or.inl ⟨by rfl, ?_⟩) ?_ ?_
          rotate_left
          · intro w'
            go_simp
            with_reducible rfl
          rotate_left
          · simp only [Act.put, List.setIfInBounds_toArray, List.set_cons_zero, List.set_cons_succ, i64_w, i32_w]
            rfl
          refine last_ (i := 6) (N := none) #[true, true, true, true, true, true, true] rfl rfl (by kernel_rfl) (by decide) (fun K hK => ?_)
          have z0 := C4.out.blk.c0; have z1 := C4.out.blk.c1; have z2 := C4.out.blk.c2; have z3 := C4.out.blk.c3; have z4 := C4.out.blk.c4; have z5 := C4.out.blk.c5; have y := blk_frozen C4.out.blk
          refine skip_ (w1 := ?_) (by rfl) rfl ?_ ?_
          rotate_left
          · go_simp
            rfl
          obtain ⟨w6, hw9, hB9, F9⟩ := C4.out.blk.end0 (.slice A5 x.f0.length k5) (.slice A8 x.f3.length k8) x
          rw [← hw9]
          clear hw9 z0 z1 z2 z3 z4 z5 y
          refine hK.out _ _ ?_
          clear hK K
          refine done_ (by kernel_rfl) ?_

          have C6 := Lib.hid (C4.out.set0 F9 hB9 O4.out I4.out)
          have gne : ∀ k, w2.heap.size ≤ k → k ≠ g := fun k hk e => by have := heap_lt C.out.blk; omega
          have V6 := Lib.hid (Kd.R_step V4.out (fun k hk hlt => F9.same k hlt (gne k hk)))
          clear C4 O4 I4 V4 Z4 F9 hB9 gne hHeld
          go_wp2_with fail
          replace C6 := Lib.hid (C6.out.below (below_drew (Below.refl _ _))); replace V6 := Lib.hid (Kd.R_drew V6.out)
          refine start_ (n := 14) (S := fun w' => w'.cell? ⟨g, 14, none⟩ = some p0) (ds := [13]) #[false, false, false, false, false, false, false, false, false, false, false, false, false, false] (by kernel_rfl) rfl rfl (C6.out.blk.c14) (fun hHeld => ?_)
          generalize w6.drew = w7 at C6 V6 hHeld ⊢
          refine pure_ (i := 0) (N := some 70) (v := ?_) (a' := ?_) #[true, false, false, false, false, false, false, false, false, false, false, false, false, false] rfl rfl (by kernel_rfl) (fun _ _ _ h => h) (Or.inl ⟨by rfl, ?_⟩) ?_ ?_
          rotate_left
          · intro w'
            go_simp
            with_reducible rfl
          rotate_left
          · simp only [Act.put, List.setIfInBounds_toArray, List.set_cons_zero, List.set_cons_succ, i64_w, i32_w]
            rfl
          refine pure_ (i := 1) (N := some 71) (v := ?_) (a' := ?_) #[true, true, false, false, false, false, false, false, false, false, false, false, false, false] rfl rfl (by kernel_rfl) (fun _ _ _ h => h) (Or.inl ⟨by rfl, ?_⟩) ?_ ?_
          rotate_left
          · intro w'
            go_simp
            with_reducible rfl
          rotate_left
          · simp only [Act.put, List.setIfInBounds_toArray, List.set_cons_zero, List.set_cons_succ, i64_w, i32_w]
            rfl
          refine pure_ (i := 2) (N := some 72) (v := ?_) (a' := ?_) #[true, true, true, false, false, false, false, false, false, false, false, false, false, false] rfl rfl (by kernel_rfl) (fun _ _ _ h => h) (Or.inl ⟨by rfl, ?_⟩) ?_ ?_
          rotate_left
          · intro w'
            go_simp
            with_reducible rfl
          rotate_left
          · simp only [Act.put, List.setIfInBounds_toArray, List.set_cons_zero, List.set_cons_succ, i64_w, i32_w]
            rfl
          refine pure_ (i := 3) (N := some 73) (v := ?_) (a' := ?_) #[true, true, true, true, false, false, false, false, false, false, false, false, false, false] rfl rfl (by kernel_rfl) (fun _ _ _ h => h) (Or.inl ⟨by rfl, ?_⟩) ?_ ?_
          rotate_left
          · intro w'
            go_simp
            with_reducible rfl
          rotate_left
          · simp only [Act.put, List.setIfInBounds_toArray, List.set_cons_zero, List.set_cons_succ, i64_w, i32_w]
            rfl
          refine pure_ (i := 4) (N := some 74) (v := ?_) (a' := ?_) #[true, true, true, true, true, false, false, false, false, false, false, false, false, false] rfl rfl (by kernel_rfl) (fun _ _ _ h => h) (Or.inl ⟨by rfl, ?_⟩) ?_ ?_
          rotate_left
          · intro w'
            go_simp
            with_reducible rfl
          rotate_left
          · simp only [Act.put, List.setIfInBounds_toArray, List.set_cons_zero, List.set_cons_succ, i64_w, i32_w]
            rfl
          refine pure_ (i := 5) (N := some 75) (v := ?_) (a' := ?_) #[true, true, true, true, true, true, false, false, false, false, false, false, false, false] rfl rfl (by kernel_rfl) (fun _ _ _ h => h) (Or.inl ⟨by rfl, ?_⟩) ?_ ?_
          rotate_left
          · intro w'
            go_simp
            with_reducible rfl
          rotate_left
          · simp only [Act.put, List.setIfInBounds_toArray, List.set_cons_zero, List.set_cons_succ, i64_w, i32_w]
            rfl
          refine pure_ (i := 6) (N := some 76) (v := ?_) (a' := ?_) #[true, true, true, true, true, true, true, false, false, false, false, false, false, false] rfl rfl (by kernel_rfl) (fun _ _ _ h => h) (Or.inl ⟨by rfl, ?_⟩) ?_ ?_
          rotate_left
          · intro w'
            go_simp
            with_reducible rfl
          rotate_left
          · simp only [Act.put, List.setIfInBounds_toArray, List.set_cons_zero, List.set_cons_succ, i64_w, i32_w]
            rfl
          refine pure_ (i := 8) (N := some 78) (v := ?_) (a' := ?_) #[true, true, true, true, true, true, true, false, true, false, false, false, false, false] rfl rfl (by kernel_rfl) (fun _ _ _ h => h) (Or.inl ⟨by rfl, ?_⟩) ?_ ?_
          rotate_left
          · intro w'
            go_simp
            with_reducible rfl
          rotate_left
          · simp only [Act.put, List.setIfInBounds_toArray, List.set_cons_zero, List.set_cons_succ, i64_w, i32_w]
            rfl
          refine pure_ (i := 10) (N := some 80) (v := ?_) (a' := ?_) #[true, true, true, true, true, true, true, false, true, false, true, false, false, false] rfl rfl (by kernel_rfl) (fun _ _ _ h => h) (Or.inl ⟨by rfl, ?_⟩) ?_ ?_
          rotate_left
          · intro w'
            go_simp
            with_reducible rfl
          rotate_left
          · simp only [Act.put, List.setIfInBounds_toArray, List.set_cons_zero, List.set_cons_succ, i64_w, i32_w]
            rfl
          refine pure_ (i := 11) (N := some 81) (v := ?_) (a' := ?_) #[true, true, true, true, true, true, true, false, true, false, true, true, false, false] rfl rfl (by kernel_rfl) (fun _ _ _ h => h) (Or.inl ⟨by rfl, ?_⟩) ?_ ?_
          rotate_left
          · intro w'
            go_simp
            with_reducible rfl
          rotate_left
          · simp only [Act.put, List.setIfInBounds_toArray, List.set_cons_zero, List.set_cons_succ, i64_w, i32_w]
            rfl
          refine take_ (i := 7) (N := some 77) (v := ?_) (a' := ?_) #[true, true, true, true, true, true, true, true, true, false, true, true, false, false] rfl rfl (by kernel_rfl) (fun _ _ _ h => h) (Or.inl ⟨by rfl, ?_⟩) hHeld ?_ ?_
          rotate_left
          · intro w' s0
            go_simp
            with_reducible rfl
          rotate_left
          · simp only [Act.put, List.setIfInBounds_toArray, List.set_cons_zero, List.set_cons_succ, i64_w, i32_w]
            rfl
          refine one_ (i := 9) (N := some 79) #[true, true, true, true, true, true, true, true, true, true, true, true, false, false] rfl rfl (by kernel_rfl) (by decide) (fun K hK => ?_)
          have hrr := (Kd.R_reads' V6.out).2.2
          refine Kd.R_append_rows_step (Rr := k39.K w7) k39 (w0 := w) w.heap.size (by rfl) (.tmp 77) (.tmp 78) 28 39 (.agg #[(.int .i64 0), (.int .i64 0), (.int .i64 0), (.string ⟨#[]⟩), (.int .i64 0), (.int .i64 0), (.int .i64 0), (.int .i64 0)]) 72 (by rfl) Try.underlying28 info39 rfl (by decide) (by decide) p0 r0 q A6 q.length c6 (fun k => k ≠ g ∧ some k ≠ w0.ownBlock ∧ some k ≠ w1.ownBlock ∧ some k ≠ p1.ownBlock) (fun _ => False) (by rfl) (by rfl) C6.out.pp0 hrr (fun y cs h => k39_open h ▸ k39_mkM _ _ _ y) (fun _ h => h.elim) (fun k hk => ⟨(C6.out.fresh hk).1, (C6.out.fresh hk).2.1, (C6.out.fresh hk).2.2.1, (C6.out.fresh hk).2.2.2.2⟩) C6.out.low C6.out.low.size (off_sz (by have := S0.out.2; have := HN.out; omega) (by have := HQ4.out; omega)) ?_
          intro v8 w8 hR8 hb8 hg8 hat8
          obtain ⟨A9, k9, hv8⟩ := Kd.R_slice hR8
          subst hv8
          have hlen : (r0 ++ q).length = r0.length + q.length := List.length_append
          simp only [hlen] at hR8 hg8 hat8 ⊢
          clear hlen
          refine hK.out _ _ ((show ChB w8 g _ _ _ _ _ _ w0 w1 p0 p1 now from blk_grown C6.out.blk hg8 (fun e => (C6.out.pp0.1 g e.symm).1 rfl)).c14) (fun hHeld => ?_)
          clear hK K
          refine norm_ (a' := ?_) ?_ ?_
          rotate_left
          · show Act.put _ (some 79) _ = _
            simp only [Act.put, List.setIfInBounds_toArray, List.set_cons_zero, List.set_cons_succ, i64_w, i32_w]
            rfl
          refine pure_ (i := 12) (N := some 82) (v := ?_) (a' := ?_) #[true, true, true, true, true, true, true, true, true, true, true, true, true, false] rfl rfl (by kernel_rfl) (fun _ _ _ h => h) (Or.inl ⟨by rfl, ?_⟩) ?_ ?_
          rotate_left
          · intro w'
            go_simp
            with_reducible rfl
          rotate_left
          · simp only [Act.put, List.setIfInBounds_toArray, List.set_cons_zero, List.set_cons_succ, i64_w, i32_w]
            rfl
          refine last_ (i := 13) (N := none) #[true, true, true, true, true, true, true, true, true, true, true, true, true, true] rfl rfl (by kernel_rfl) (by decide) (fun K hK => ?_)
          have hblk8 : ChB w8 g _ _ _ _ _ _ w0 w1 p0 p1 now := blk_grown C6.out.blk hg8 (fun e => (C6.out.pp0.1 g e.symm).1 rfl)
          have q1 := hblk8.c14; have q2 := blk_frozen hblk8 14
          refine skip_ (w1 := ?_) (by rfl) rfl ?_ ?_
          rotate_left
          · go_simp
            rfl
          refine hK.out _ _ ?_
          clear hK K
          refine done_ (by kernel_rfl) ?_

          have C9 := Lib.hid (C6.out.off0 hb8 hg8 hat8 hR8)
          clear hR8 hb8 hg8 hat8 hblk8 q1 q2 hrr
          go_wp2_with fail
          go_ret
          exact ⟨rfl, _, _, _, _, _, _, _, _, _, _, _, _, _, _, _, C9.out, I2.out, by have := L0.out; omega, by have := L1.out; omega⟩
  · have he := HEE.out
    obtain ⟨AO, cO, hvo⟩ := Kd.V_slice hC.o1
    obtain ⟨AI, cI, hvi⟩ := Kd.V_slice hC.i1
    obtain ⟨AP, cP, hvp⟩ := Kd.R_slice hC.pp1
    subst hvo hvi
    have C := Lib.hid hC; have HVP := Lib.hid hvp
    clear hC hvp
    go_enter Try.func38, Try.ntmps38
    have O := Lib.hid (OBlk.new W 0 e s t p)
    have o0 := O.out.c0; have o1 := O.out.c1
    go_wp2_with fail
    obtain ⟨tO, htO⟩ : ∃ tO, tO = W.heap.size := ⟨_, rfl⟩
    rw [← htO] at O
    rw [← htO]
    replace C := Lib.hid (C.out.below (below_one W (.cells #[.int .i64 0, .int .i64 e, .int .i64 s, .int .i64 t, .int .i64 p] 75)))
    clear htO o0 o1
    generalize W.alloc (.cells #[.int .i64 0, .int .i64 e, .int .i64 s, .int .i64 t, .int .i64 p] 75) = w2 at C O ⊢
    go_loopw [6, 7] (fun v6 v7 Wc => ∃ q : List S39, v7 = .int .i64 (q.length : Int) ∧ (q.length : Int) ≤ s3 + 1 ∧ Kd.R k39 39 Wc w2.heap.size (fun _ => True) v6 q ∧ Below w2.heap.size w2 Wc) (fun _ i _ => 5 - (intOf i).toNat)
    case atStart => exact ⟨[], rfl, by have := S3R.out; simp only [List.length_nil]; omega, Kd.R_nil _ _ _ _ _, Below.refl _ _⟩
    case round =>
      obtain ⟨q, rfl, hq, hR, hb⟩ := hrel
      obtain ⟨A6, c6, hv6⟩ := Kd.R_slice hR
      have Q := Lib.hid hR; have B := Lib.hid hb; have HQ := Lib.hid hq; have HV6 := Lib.hid hv6
      have Ow := Lib.hid (O.out.below hb); have Cw := Lib.hid (C.out.below hb)
      clear hR hb hq hv6
      have o2 := Ow.out.c2
      have hs3 := HS3.out
      by_cases hlt : (q.length : Int) ≤ s3
      · have cp := Cw.out.blk.c15
        rw [HVP.out] at cp
        have hq4 : q.length ≤ 4 := by have := S3R.out; omega
        have HQ4 := Lib.hid hq4; have HLT := Lib.hid hlt
        clear hq4
        go_wp2_with ((with_reducible refine gate_builtin (b := .append) (xs := #[.tmp 24, .tmp 36]) rfl ?_); at_builtin; refine Kd.R_append_rows (Rr := k39.K (wr.alloc (.cells #[.int .i64 (wrap64 ((r1.length : Int) + (q.length : Int))), .int .i64 0, .int .i64 0, .string ⟨#[]⟩, .int .i64 0, .int .i64 0, .int .i64 0, .int .i64 1] 39))) k39 (w0 := w2) w2.heap.size rfl (.tmp 24) (.tmp 36) 28 39 (.agg #[(.int .i64 0), (.int .i64 0), (.int .i64 0), (.string ⟨#[]⟩), (.int .i64 0), (.int .i64 0), (.int .i64 0), (.int .i64 0)]) 72 rfl Try.underlying28 info39 rfl (by decide) (by decide) u6 q [recN (wrap64 ((r1.length : Int) + (q.length : Int))) 1] (some ⟨wr.heap.size, 0, none⟩) 1 1 (fun _ => True) (fun _ => False) rfl rfl (Kd.R_alloc Q.out _) (C1R wr (recN (wrap64 ((r1.length : Int) + (q.length : Int))) 1)) (fun y cs h => k39_open h ▸ k39_mkM _ _ _ y) (fun _ h => h.elim) (fun _ _ => trivial) (al B.out _) (Nat.le_trans B.out.size (below_one _ _).size) (off_sz (by have := HQ4.out; omega) (by decide)) ?_; intro v3 w5 ho5 hb5 hg5 hat5)
        go_roundw
        case rel =>
          exact ⟨q ++ [recN (wrap64 ((r1.length : Int) + (q.length : Int))) 1], congrArg (Value.int .i64) (snoc_len q _ (by have := HQ4.out; omega)), by have := HLT.out; rw [List.length_append, List.length_singleton]; omega, ho5, hb5⟩
        case measure =>
          have := HQ4.out
          rw [snoc_len q (recN 0 0) (by omega), List.length_append, List.length_singleton]
          simp only [intOf]
          omega
      · have hqs : (q.length : Int) = s3 + 1 := by have := HQ.out; omega
        have hq1 : 1 ≤ q.length := by have := S3R.out; omega
        have hq2 : q.length ≤ 4 := by have := S3R.out; omega
        have HQ4 := Lib.hid hq2
        have hrq := Q.out
        rw [HV6.out] at hrq
        have HQC := Lib.hid (Kd.R_reads' hrq).2.2
        rw [HV6.out]
        rcases I.out.swap.offer (by have := HN.out; omega) q hq1 hq2 with ⟨ho, h64⟩ | ⟨x, ho, hI2⟩
        · have HO := Lib.hid ho; have H64 := Lib.hid h64
          clear hq1 hq2 hqs hrq ho h64
          have d0 := Cw.out.blk.c6
          have d1 := Cw.out.blk.c7
          have d2 := Cw.out.blk.c8
          have d3 := Cw.out.blk.c9
          have d4 := Cw.out.blk.c10
          have d5 := Cw.out.blk.c11
          go_wp2_with fail
          refine (offer_lit HO.out AO cO AI cI A6 c6 _ (Kd.V_reads' Cw.out.o1).2.2 (Kd.V_reads' Cw.out.i1).2.2 (by have := S0.out.1; have := HN.out; omega) HQC.out).mono ?_
          rintro e' w3 ⟨v, rfl, hE, hb3⟩
          obtain ⟨A5, k5, A8, k8, rfl, hO, hI⟩ := six_read hE
          have C3 := Lib.hid (Cw.out.below hb3)
          clear hE hb3 hO hI d0 d1 d2 d3 d4 d5
          have cz := fun o => (C3.out.below (below_one w3 o)).blk.c6
          have hz : ((x1.f0.length : Int) == 64) = true := by have := H64.out; simp only [beq_iff_eq]; omega
          go_wp2_with fail
          go_ret
          exact ⟨rfl, _, _, _, _, _, _, _, _, _, _, _, _, _, _, _, C3.out.below (below_one _ _), I.out.next, by have := L0.out; omega, by have := L1.out; omega⟩
        · have HO := Lib.hid ho; have I2 := Lib.hid hI2
          clear hq1 hq2 hqs hrq ho hI2
          have d0 := Cw.out.blk.c6
          have d1 := Cw.out.blk.c7
          have d2 := Cw.out.blk.c8
          have d3 := Cw.out.blk.c9
          have d4 := Cw.out.blk.c10
          have d5 := Cw.out.blk.c11
          go_wp2_with fail
          refine (offer_lit HO.out AO cO AI cI A6 c6 _ (Kd.V_reads' Cw.out.o1).2.2 (Kd.V_reads' Cw.out.i1).2.2 (by have := S0.out.1; have := HN.out; omega) HQC.out).mono ?_
          rintro e' w3 ⟨v, rfl, hE, hb3⟩
          obtain ⟨A5, k5, A8, k8, rfl, hO, hI⟩ := six_read hE
          have C3 := Lib.hid (Cw.out.below hb3)
          have O3 := Lib.hid (Kd.V_mono hO (fun k hk => Cw.out.fresh hk)); have I3 := Lib.hid (Kd.V_mono hI (fun k hk => Cw.out.fresh hk))
          have Q3 := Lib.hid (Kd.R_mono (Kd.R_bound (Kd.R_below Q.out hb3)) (ok' := fun k => w2.heap.size ≤ k) (fun k hk => hk.2.1))
          rw [HV6.out] at Q3
          clear hE hb3 hO hI d0 d1 d2 d3 d4 d5
          go_wp2_with fail
          obtain ⟨t8, ht8⟩ : ∃ t8, t8 = w3.heap.size := ⟨_, rfl⟩
          have Z4 := Lib.hid (EBlk.new w3 61 (.slice A5 x.f0.length k5) (.slice A8 x.f3.length k8) x.f1 x.f2 x.f5 x.f4)
          rw [← ht8] at Z4
          rw [← ht8]
          have C4 := Lib.hid (C3.out.below (below_one w3 (.cells #[.slice A5 x.f0.length k5, .int .i64 x.f1, .int .i64 x.f2, .slice A8 x.f3.length k8, .bool x.f4, .int .i64 x.f5] 61)))
          have O4 := Lib.hid (Kd.V_below O3.out (below_one w3 (.cells #[.slice A5 x.f0.length k5, .int .i64 x.f1, .int .i64 x.f2, .slice A8 x.f3.length k8, .bool x.f4, .int .i64 x.f5] 61))); have I4 := Lib.hid (Kd.V_below I3.out (below_one w3 (.cells #[.slice A5 x.f0.length k5, .int .i64 x.f1, .int .i64 x.f2, .slice A8 x.f3.length k8, .bool x.f4, .int .i64 x.f5] 61))); have V4 := Lib.hid (Kd.R_below Q3.out (below_one w3 (.cells #[.slice A5 x.f0.length k5, .int .i64 x.f1, .int .i64 x.f2, .slice A8 x.f3.length k8, .bool x.f4, .int .i64 x.f5] 61)))
          clear C3 O3 I3 Q3 ht8
          generalize w3.alloc (.cells #[.slice A5 x.f0.length k5, .int .i64 x.f1, .int .i64 x.f2, .slice A8 x.f3.length k8, .bool x.f4, .int .i64 x.f5] 61) = w4 at C4 O4 I4 V4 Z4 ⊢
          replace C4 := Lib.hid (C4.out.below (below_drew (Below.refl _ _))); replace O4 := Lib.hid (Kd.V_drew O4.out); replace I4 := Lib.hid (Kd.V_drew I4.out); replace V4 := Lib.hid (Kd.R_drew V4.out); replace Z4 := Lib.hid (Z4.out.below (below_drew (Below.refl _ _)))
          refine start_ (n := 7) (S := fun w' => w'.cell? ⟨t8, 0, none⟩ = some (.slice A5 x.f0.length k5) ∧ w'.cell? ⟨t8, 1, none⟩ = some (.int .i64 x.f1) ∧ w'.cell? ⟨t8, 2, none⟩ = some (.int .i64 x.f2) ∧ w'.cell? ⟨t8, 3, none⟩ = some (.slice A8 x.f3.length k8) ∧ w'.cell? ⟨t8, 4, none⟩ = some (.bool x.f4) ∧ w'.cell? ⟨t8, 5, none⟩ = some (.int .i64 x.f5)) (ds := [6]) #[false, false, false, false, false, false, false] (by kernel_rfl) rfl rfl ⟨Z4.out.c0, Z4.out.c1, Z4.out.c2, Z4.out.c3, Z4.out.c4, Z4.out.c5⟩ (fun hHeld => ?_)
          generalize w4.drew = w5 at C4 O4 I4 V4 Z4 hHeld ⊢
          refine pure_ (i := 0) (N := some 64) (v := ?_) (a' := ?_) #[true, false, false, false, false, false, false] rfl rfl (by kernel_rfl) (fun _ _ _ h => h) (Or.inl ⟨by rfl, ?_⟩) ?_ ?_
          rotate_left
          · intro w'
            go_simp
            with_reducible rfl
          rotate_left
          · simp only [Act.put, List.setIfInBounds_toArray, List.set_cons_zero, List.set_cons_succ, i64_w, i32_w]
            rfl
          refine pure_ (i := 1) (N := some 65) (v := ?_) (a' := ?_) #[true, true, false, false, false, false, false] rfl rfl (by kernel_rfl) (fun _ _ _ h => h) (Or.inl ⟨by rfl, ?_⟩) ?_ ?_
          rotate_left
          · intro w'
            go_simp
            with_reducible rfl
          rotate_left
          · simp only [Act.put, List.setIfInBounds_toArray, List.set_cons_zero, List.set_cons_succ, i64_w, i32_w]
            rfl
          refine pure_ (i := 3) (N := some 67) (v := ?_) (a' := ?_) #[true, true, false, true, false, false, false] rfl rfl (by kernel_rfl) (fun _ _ _ h => h) (Or.inl ⟨by rfl, ?_⟩) ?_ ?_
          rotate_left
          · intro w'
            go_simp
            with_reducible rfl
          rotate_left
          · simp only [Act.put, List.setIfInBounds_toArray, List.set_cons_zero, List.set_cons_succ, i64_w, i32_w]
            rfl
          refine pure_ (i := 4) (N := some 68) (v := ?_) (a' := ?_) #[true, true, false, true, true, false, false] rfl rfl (by kernel_rfl) (fun _ _ _ h => h) (Or.inl ⟨by rfl, ?_⟩) ?_ ?_
          rotate_left
          · intro w'
            go_simp
            with_reducible rfl
          rotate_left
          · simp only [Act.put, List.setIfInBounds_toArray, List.set_cons_zero, List.set_cons_succ, i64_w, i32_w]
            rfl
          refine take_ (i := 2) (N := some 66) (v := ?_) (a' := ?_) #[true, true, true, true, true, false, false] rfl rfl (by kernel_rfl) (fun _ _ _ h => h) (Or.inl ⟨by rfl, ?_⟩) hHeld ?_ ?_
          rotate_left
          · rintro w' ⟨s0, s1, s2, s3, s4, s5⟩
            go_simp
            with_reducible rfl
          rotate_left
          · simp only [Act.put, List.setIfInBounds_toArray, List.set_cons_zero, List.set_cons_succ, i64_w, i32_w]
            rfl
          refine pure_ (i := 5) (N := some 69) (v := ?_) (a' := ?_) #[true, true, true, true, true, true, false] rfl rfl (by kernel_rfl) (fun _ _ _ h => h) (Or.inl ⟨by rfl, ?_⟩) ?_ ?_
          rotate_left
          · intro w'
            go_simp
            with_reducible rfl
          rotate_left
          · simp only [Act.put, List.setIfInBounds_toArray, List.set_cons_zero, List.set_cons_succ, i64_w, i32_w]
            rfl
          refine last_ (i := 6) (N := none) #[true, true, true, true, true, true, true] rfl rfl (by kernel_rfl) (by decide) (fun K hK => ?_)
          have z0 := C4.out.blk.c6; have z1 := C4.out.blk.c7; have z2 := C4.out.blk.c8; have z3 := C4.out.blk.c9; have z4 := C4.out.blk.c10; have z5 := C4.out.blk.c11; have y := blk_frozen C4.out.blk
          refine skip_ (w1 := ?_) (by rfl) rfl ?_ ?_
          rotate_left
          · go_simp
            rfl
          obtain ⟨w6, hw9, hB9, F9⟩ := C4.out.blk.end1 (.slice A5 x.f0.length k5) (.slice A8 x.f3.length k8) x
          rw [← hw9]
          clear hw9 z0 z1 z2 z3 z4 z5 y
          refine hK.out _ _ ?_
          clear hK K
          refine done_ (by kernel_rfl) ?_

          have C6 := Lib.hid (C4.out.set1 F9 hB9 O4.out I4.out)
          have gne : ∀ k, w2.heap.size ≤ k → k ≠ g := fun k hk e => by have := heap_lt C.out.blk; omega
          have V6 := Lib.hid (Kd.R_step V4.out (fun k hk hlt => F9.same k hlt (gne k hk)))
          clear C4 O4 I4 V4 Z4 F9 hB9 gne hHeld
          go_wp2_with fail
          replace C6 := Lib.hid (C6.out.below (below_drew (Below.refl _ _))); replace V6 := Lib.hid (Kd.R_drew V6.out)
          refine start_ (n := 14) (S := fun w' => w'.cell? ⟨g, 15, none⟩ = some p1) (ds := [13]) #[false, false, false, false, false, false, false, false, false, false, false, false, false, false] (by kernel_rfl) rfl rfl (C6.out.blk.c15) (fun hHeld => ?_)
          generalize w6.drew = w7 at C6 V6 hHeld ⊢
          refine pure_ (i := 0) (N := some 70) (v := ?_) (a' := ?_) #[true, false, false, false, false, false, false, false, false, false, false, false, false, false] rfl rfl (by kernel_rfl) (fun _ _ _ h => h) (Or.inl ⟨by rfl, ?_⟩) ?_ ?_
          rotate_left
          · intro w'
            go_simp
            with_reducible rfl
          rotate_left
          · simp only [Act.put, List.setIfInBounds_toArray, List.set_cons_zero, List.set_cons_succ, i64_w, i32_w]
            rfl
          refine pure_ (i := 1) (N := some 71) (v := ?_) (a' := ?_) #[true, true, false, false, false, false, false, false, false, false, false, false, false, false] rfl rfl (by kernel_rfl) (fun _ _ _ h => h) (Or.inl ⟨by rfl, ?_⟩) ?_ ?_
          rotate_left
          · intro w'
            go_simp
            with_reducible rfl
          rotate_left
          · simp only [Act.put, List.setIfInBounds_toArray, List.set_cons_zero, List.set_cons_succ, i64_w, i32_w]
            rfl
          refine pure_ (i := 2) (N := some 72) (v := ?_) (a' := ?_) #[true, true, true, false, false, false, false, false, false, false, false, false, false, false] rfl rfl (by kernel_rfl) (fun _ _ _ h => h) (Or.inl ⟨by rfl, ?_⟩) ?_ ?_
          rotate_left
          · intro w'
            go_simp
            with_reducible rfl
          rotate_left
          · simp only [Act.put, List.setIfInBounds_toArray, List.set_cons_zero, List.set_cons_succ, i64_w, i32_w]
            rfl
          refine pure_ (i := 3) (N := some 73) (v := ?_) (a' := ?_) #[true, true, true, true, false, false, false, false, false, false, false, false, false, false] rfl rfl (by kernel_rfl) (fun _ _ _ h => h) (Or.inl ⟨by rfl, ?_⟩) ?_ ?_
          rotate_left
          · intro w'
            go_simp
            with_reducible rfl
          rotate_left
          · simp only [Act.put, List.setIfInBounds_toArray, List.set_cons_zero, List.set_cons_succ, i64_w, i32_w]
            rfl
          refine pure_ (i := 4) (N := some 74) (v := ?_) (a' := ?_) #[true, true, true, true, true, false, false, false, false, false, false, false, false, false] rfl rfl (by kernel_rfl) (fun _ _ _ h => h) (Or.inl ⟨by rfl, ?_⟩) ?_ ?_
          rotate_left
          · intro w'
            go_simp
            with_reducible rfl
          rotate_left
          · simp only [Act.put, List.setIfInBounds_toArray, List.set_cons_zero, List.set_cons_succ, i64_w, i32_w]
            rfl
          refine pure_ (i := 5) (N := some 75) (v := ?_) (a' := ?_) #[true, true, true, true, true, true, false, false, false, false, false, false, false, false] rfl rfl (by kernel_rfl) (fun _ _ _ h => h) (Or.inl ⟨by rfl, ?_⟩) ?_ ?_
          rotate_left
          · intro w'
            go_simp
            with_reducible rfl
          rotate_left
          · simp only [Act.put, List.setIfInBounds_toArray, List.set_cons_zero, List.set_cons_succ, i64_w, i32_w]
            rfl
          refine pure_ (i := 6) (N := some 76) (v := ?_) (a' := ?_) #[true, true, true, true, true, true, true, false, false, false, false, false, false, false] rfl rfl (by kernel_rfl) (fun _ _ _ h => h) (Or.inl ⟨by rfl, ?_⟩) ?_ ?_
          rotate_left
          · intro w'
            go_simp
            with_reducible rfl
          rotate_left
          · simp only [Act.put, List.setIfInBounds_toArray, List.set_cons_zero, List.set_cons_succ, i64_w, i32_w]
            rfl
          refine pure_ (i := 8) (N := some 78) (v := ?_) (a' := ?_) #[true, true, true, true, true, true, true, false, true, false, false, false, false, false] rfl rfl (by kernel_rfl) (fun _ _ _ h => h) (Or.inl ⟨by rfl, ?_⟩) ?_ ?_
          rotate_left
          · intro w'
            go_simp
            with_reducible rfl
          rotate_left
          · simp only [Act.put, List.setIfInBounds_toArray, List.set_cons_zero, List.set_cons_succ, i64_w, i32_w]
            rfl
          refine pure_ (i := 10) (N := some 80) (v := ?_) (a' := ?_) #[true, true, true, true, true, true, true, false, true, false, true, false, false, false] rfl rfl (by kernel_rfl) (fun _ _ _ h => h) (Or.inl ⟨by rfl, ?_⟩) ?_ ?_
          rotate_left
          · intro w'
            go_simp
            with_reducible rfl
          rotate_left
          · simp only [Act.put, List.setIfInBounds_toArray, List.set_cons_zero, List.set_cons_succ, i64_w, i32_w]
            rfl
          refine pure_ (i := 11) (N := some 81) (v := ?_) (a' := ?_) #[true, true, true, true, true, true, true, false, true, false, true, true, false, false] rfl rfl (by kernel_rfl) (fun _ _ _ h => h) (Or.inl ⟨by rfl, ?_⟩) ?_ ?_
          rotate_left
          · intro w'
            go_simp
            with_reducible rfl
          rotate_left
          · simp only [Act.put, List.setIfInBounds_toArray, List.set_cons_zero, List.set_cons_succ, i64_w, i32_w]
            rfl
          refine take_ (i := 7) (N := some 77) (v := ?_) (a' := ?_) #[true, true, true, true, true, true, true, true, true, false, true, true, false, false] rfl rfl (by kernel_rfl) (fun _ _ _ h => h) (Or.inl ⟨by rfl, ?_⟩) hHeld ?_ ?_
          rotate_left
          · intro w' s0
            go_simp
            with_reducible rfl
          rotate_left
          · simp only [Act.put, List.setIfInBounds_toArray, List.set_cons_zero, List.set_cons_succ, i64_w, i32_w]
            rfl
          refine one_ (i := 9) (N := some 79) #[true, true, true, true, true, true, true, true, true, true, true, true, false, false] rfl rfl (by kernel_rfl) (by decide) (fun K hK => ?_)
          have hrr := (Kd.R_reads' V6.out).2.2
          refine Kd.R_append_rows_step (Rr := k39.K w7) k39 (w0 := w) w.heap.size (by rfl) (.tmp 77) (.tmp 78) 28 39 (.agg #[(.int .i64 0), (.int .i64 0), (.int .i64 0), (.string ⟨#[]⟩), (.int .i64 0), (.int .i64 0), (.int .i64 0), (.int .i64 0)]) 72 (by rfl) Try.underlying28 info39 rfl (by decide) (by decide) p1 r1 q A6 q.length c6 (fun k => k ≠ g ∧ some k ≠ w0.ownBlock ∧ some k ≠ w1.ownBlock ∧ some k ≠ p0.ownBlock) (fun _ => False) (by rfl) (by rfl) C6.out.pp1 hrr (fun y cs h => k39_open h ▸ k39_mkM _ _ _ y) (fun _ h => h.elim) (fun k hk => ⟨(C6.out.fresh hk).1, (C6.out.fresh hk).2.1, (C6.out.fresh hk).2.2.1, (C6.out.fresh hk).2.2.2.1⟩) C6.out.low C6.out.low.size (off_sz (by have := S1.out.2; have := HN.out; omega) (by have := HQ4.out; omega)) ?_
          intro v8 w8 hR8 hb8 hg8 hat8
          obtain ⟨A9, k9, hv8⟩ := Kd.R_slice hR8
          subst hv8
          have hlen : (r1 ++ q).length = r1.length + q.length := List.length_append
          simp only [hlen] at hR8 hg8 hat8 ⊢
          clear hlen
          refine hK.out _ _ ((show ChB w8 g _ _ _ _ _ _ w0 w1 p0 p1 now from blk_grown C6.out.blk hg8 (fun e => (C6.out.pp1.1 g e.symm).1 rfl)).c15) (fun hHeld => ?_)
          clear hK K
          refine norm_ (a' := ?_) ?_ ?_
          rotate_left
          · show Act.put _ (some 79) _ = _
            simp only [Act.put, List.setIfInBounds_toArray, List.set_cons_zero, List.set_cons_succ, i64_w, i32_w]
            rfl
          refine pure_ (i := 12) (N := some 82) (v := ?_) (a' := ?_) #[true, true, true, true, true, true, true, true, true, true, true, true, true, false] rfl rfl (by kernel_rfl) (fun _ _ _ h => h) (Or.inl ⟨by rfl, ?_⟩) ?_ ?_
          rotate_left
          · intro w'
            go_simp
            with_reducible rfl
          rotate_left
          · simp only [Act.put, List.setIfInBounds_toArray, List.set_cons_zero, List.set_cons_succ, i64_w, i32_w]
            rfl
          refine last_ (i := 13) (N := none) #[true, true, true, true, true, true, true, true, true, true, true, true, true, true] rfl rfl (by kernel_rfl) (by decide) (fun K hK => ?_)
          have hblk8 : ChB w8 g _ _ _ _ _ _ w0 w1 p0 p1 now := blk_grown C6.out.blk hg8 (fun e => (C6.out.pp1.1 g e.symm).1 rfl)
          have q1 := hblk8.c15; have q2 := blk_frozen hblk8 15
          refine skip_ (w1 := ?_) (by rfl) rfl ?_ ?_
          rotate_left
          · go_simp
            rfl
          refine hK.out _ _ ?_
          clear hK K
          refine done_ (by kernel_rfl) ?_

          have C9 := Lib.hid (C6.out.off1 hb8 hg8 hat8 hR8)
          clear hR8 hb8 hg8 hat8 hblk8 q1 q2 hrr
          go_wp2_with fail
          go_ret
          exact ⟨rfl, _, _, _, _, _, _, _, _, _, _, _, _, _, _, _, C9.out, I2.out.swap, by have := L0.out; omega, by have := L1.out; omega⟩
/-- Every operation keeps the protocol. -/
theorem stepCh (w W : World) (g n : Nat) (hn : n ≤ 1000) (h : ChInv w W g n) (k e s t p : Int) :
    Calls Try.prog 38 #[.pointer (some ⟨g, 0, none⟩), .agg #[.int .i64 k, .int .i64 e, .int .i64 s, .int .i64 t, .int .i64 p]] W fun e W' => e = .returned (.bool true) ∧ ChInv w W' g (n + 1) := by
  by_cases h0 : k = 0
  · subst h0; exact step_zero w W g n hn h e s t p
  · by_cases h1 : k = 1
    · subst h1; exact step_one w W g n hn h e s t p
    · exact step_else w W g n hn h k e s t p h0 h1
end Go.Proofs.Ytbfhohpbldadbaa.P

namespace Go.Proofs.Ytbfhohpbldadbaa.P
open Go.RowKit Go.Proofs.YtbfhohpbldadbaaW.PrintWords Go.Proofs.YtbfhohpbldadbaaW.PrintLast Go.Proofs.YtbfhohpbldadbaaW.PrintMore
set_option linter.unusedVariables false
set_option linter.unusedSimpArgs false
open Go.ChangeShapes Go.WideShapes Go.ChangeAt Go.Joins Go.Deep
set_option linter.unusedVariables false

/-- What can be read of a type is of a kind. -/
def Opens {α : Type} (P : Program) (t : TypeId) (d : Kd α) (ok : α → Prop) : Prop :=
  ∀ {H : Type} {enc : TypeId × Value → H} {w : World} {base : Nat} {spare : Nat → Bool} {held : Bool} {fuel : Nat} {cs : List Value} {x : DataW H × List MemPlace}, DataW.trod enc P w base spare held fuel t cs = some x → ∃ a, d.K w a cs ∧ ok a
theorem opens_int {P : Program} {t : TypeId} {k : IntKind} (ht : P.underlying t = some (.int k)) : Opens P t (Kd.int k) (fun n => (Lit.int k n).wf = true) := by
  intro H enc w base spare held fuel cs x h
  obtain ⟨n, rfl, _, hw⟩ := DataW.trod_int ht h
  exact ⟨n, rfl, hw⟩
theorem choose_list {α : Type} {n : Nat} {p : Nat → α → Prop} (h : ∀ i, i < n → ∃ x, p i x) : ∃ l : List α, l.length = n ∧ ∀ i x, l[i]? = some x → p i x := by
  induction n with
  | zero => exact ⟨[], rfl, fun i x hx => by simp at hx⟩
  | succ n ih =>
    obtain ⟨l, hl, hp⟩ := ih (fun i hi => h i (by omega))
    obtain ⟨y, hy⟩ := h n (by omega)
    refine ⟨l ++ [y], by simp [hl], fun i x hx => ?_⟩
    by_cases hi : i < n
    · rw [List.getElem?_append_left (by omega)] at hx
      exact hp i x hx
    · have hin : i = n := by
        have := (List.getElem?_eq_some_iff.1 hx).1
        simp [hl] at this
        omega
      subst hin
      rw [List.getElem?_append_right (by omega)] at hx
      simp [hl] at hx
      subst hx
      exact hy
theorem opens_slice {α : Type} {P : Program} {t e : TypeId} {d : Kd α} {ok : α → Prop} (ht : P.underlying t = some (.slice e)) (he : Opens P e d ok) (hc : P.cellsOf e = d.sz) : Opens P t (Kd.slice e d) (fun xs => ∀ x ∈ xs, ok x) := by
  intro H enc w base spare held fuel cs x h
  rcases open_slice ht h with ⟨rfl, _⟩ | ⟨a, len, cap, m, n, D, Pl, rfl, _, hl, hm, hmm, _, hx⟩
  · exact ⟨[], ⟨none, 0, rfl, Nat.le_refl _, Kd.C_nil _ _⟩, by simp⟩
  · have hlm : len ≤ m := by rw [hmm]; split <;> omega
    obtain ⟨xs, hlen, hxs⟩ := choose_list (α := α) (n := len) (p := fun i y => ok y ∧ ∃ c, c.length = d.sz ∧ d.K w y c ∧ ∀ j u, c[j]? = some u → w.cell? (a.add (i * d.sz + j)) = some u) (fun i hi => by
      obtain ⟨cs', h1, h2⟩ := hx i (by omega)
      obtain ⟨y, hy, hok⟩ := he h2
      obtain ⟨_, hcl, hat⟩ := World.cells?_some h1
      rw [hc] at hcl hat
      refine ⟨y, hok, cs', hcl, hy, fun j u hj => ?_⟩
      have hjl : j < cs'.length := (List.getElem?_eq_some_iff.1 hj).1
      have := hat j (by omega)
      rw [Go.Deep.add_add] at this
      rw [this, hj])
    refine ⟨xs, ⟨some a, cap, by rw [hlen], by omega, ?_⟩, ?_⟩
    · refine ⟨rfl, by rw [hlen]; unfold maxLen at hm; omega, fun _ => ⟨a, rfl, fun j p hj => ?_⟩⟩
      obtain ⟨_, c, h1, h2, h3⟩ := hxs j p hj
      exact ⟨c, h1, h2, h3⟩
    · intro y hy
      obtain ⟨i, hi⟩ := List.getElem?_of_mem hy
      exact (hxs i y hi).1

theorem own : ownKnob Try.prog.godebug = none := by kernel_rfl
theorem laidOut : laidOutB Try.prog = true := by kernel_rfl
theorem cells3 : Try.prog.cellsOf 3 = 1 := by kernel_rfl
theorem cells9 : Try.prog.cellsOf 9 = 1 := by kernel_rfl
end Go.Proofs.Ytbfhohpbldadbaa.P

namespace Go.Proofs.Ytbfhohpbldadbaa.P
open Go Go.RowKit Go.Proofs.YtbfhohpbldadbaaW.PrintWords Go.Proofs.YtbfhohpbldadbaaW.PrintLast Go.Proofs.YtbfhohpbldadbaaW.PrintMore
set_option linter.unusedVariables false
set_option linter.unusedSimpArgs false
open Go.ChangeShapes Go.WideShapes Go.ChangeAt Go.Joins Go.Deep
/-- An operation on the channel. -/
structure SOp where
  f0 : Int
  f1 : Int
  f2 : Int
  f3 : Int
  f4 : Int
def zOp : SOp := ⟨(0 : Int), (0 : Int), (0 : Int), (0 : Int), (0 : Int)⟩
def kOp : Kd SOp := Kd.iso (Kd.pair (Kd.int .i64) (Kd.pair (Kd.int .i64) (Kd.pair (Kd.int .i64) (Kd.pair (Kd.int .i64) (Kd.int .i64))))) (fun x : SOp => (x.f0, x.f1, x.f2, x.f3, x.f4))
theorem kOp_open {w : World} {x : SOp} {cs : List Value} (h : kOp.K w x cs) : cs = [.int .i64 x.f0, .int .i64 x.f1, .int .i64 x.f2, .int .i64 x.f3, .int .i64 x.f4] := by
  obtain ⟨_, _, rfl, rfl, ⟨_, _, rfl, rfl, ⟨_, _, rfl, rfl, ⟨_, _, rfl, rfl, rfl⟩⟩⟩⟩ := h
  exact rfl
structure AtO (w : World) (a : Addr) (m : SOp) : Prop where
  c0 : w.cell? a = some (.int .i64 m.f0)
  c1 : w.cell? ⟨a.block, a.off + 1, none⟩ = some (.int .i64 m.f1)
  c2 : w.cell? ⟨a.block, a.off + 2, none⟩ = some (.int .i64 m.f2)
  c3 : w.cell? ⟨a.block, a.off + 3, none⟩ = some (.int .i64 m.f3)
  c4 : w.cell? ⟨a.block, a.off + 4, none⟩ = some (.int .i64 m.f4)
theorem O_cell {w : World} {A : Option Addr} {n : Nat} {xs : List SOp} (h : Kd.C kOp w A n xs) (i : Nat) (hi : i < n) (hl : i < xs.length) : ∃ ad, A = some ad ∧ AtO w (ad.add (i * 5)) xs[i] := by
  obtain ⟨ad, c, e, _, hK, hc0⟩ := Kd.C_get h zOp (i : Int) (by omega) (by omega)
  have hc : ∀ j u, c[j]? = some u → w.cell? (ad.add (i * 5 + j)) = some u := fun j u hj => hc0 j u hj
  obtain rfl := kOp_open hK
  have hx : xs.getD (i : Int).toNat zOp = xs[i] := by rw [Int.toNat_natCast]; exact getD_at hl zOp
  rw [hx] at hc
  exact ⟨ad, e, ⟨hc 0 _ rfl, by rw [← add_field _ _ 1 (by omega)]; exact hc 1 _ rfl, by rw [← add_field _ _ 2 (by omega)]; exact hc 2 _ rfl, by rw [← add_field _ _ 3 (by omega)]; exact hc 3 _ rfl, by rw [← add_field _ _ 4 (by omega)]; exact hc 4 _ rfl⟩⟩
set_option maxRecDepth 100000 in
theorem opens_op : Opens Try.prog 75 kOp (fun _ => True) := by
  intro H enc w base spare held fuel cs x h
  obtain ⟨xs, n, _, rfl, hl, hlen, hf⟩ := DataW.trod_struct Try.underlying75 h
  rw [show Try.prog.cellsOf 75 = 5 by kernel_rfl] at hl
  match xs, hlen, cs, hl with
  | [y0, y1, y2, y3, y4], _, [c0, c1, c2, c3, c4], _ =>
    have h0 : DataW.trod enc Try.prog w base spare held n 3 [c0] = some y0 := by have := hf 0 _ rfl; simpa [cells3, cells9] using this
    obtain ⟨a0, e0, _⟩ := opens_int Try.underlying3 h0
    have h1 : DataW.trod enc Try.prog w base spare held n 3 [c1] = some y1 := by have := hf 1 _ rfl; simpa [cells3, cells9] using this
    obtain ⟨a1, e1, _⟩ := opens_int Try.underlying3 h1
    have h2 : DataW.trod enc Try.prog w base spare held n 3 [c2] = some y2 := by have := hf 2 _ rfl; simpa [cells3, cells9] using this
    obtain ⟨a2, e2, _⟩ := opens_int Try.underlying3 h2
    have h3 : DataW.trod enc Try.prog w base spare held n 3 [c3] = some y3 := by have := hf 3 _ rfl; simpa [cells3, cells9] using this
    obtain ⟨a3, e3, _⟩ := opens_int Try.underlying3 h3
    have h4 : DataW.trod enc Try.prog w base spare held n 3 [c4] = some y4 := by have := hf 4 _ rfl; simpa [cells3, cells9] using this
    obtain ⟨a4, e4, _⟩ := opens_int Try.underlying3 h4
    exact ⟨(⟨a0, a1, a2, a3, a4⟩ : SOp), ⟨[c0], [c1, c2, c3, c4], rfl, e0, ⟨[c1], [c2, c3, c4], rfl, e1, ⟨[c2], [c3, c4], rfl, e2, ⟨[c3], [c4], rfl, e3, e4⟩⟩⟩⟩, trivial⟩
set_option maxRecDepth 100000 in
theorem open_ops {H : Type} {enc : TypeId × Value → H} {w : World} {base : Nat} {spare : Nat → Bool} {held : Bool} {r : Reach} {b0 : Nat} {v : Value} {d : DataW H} {p : List MemPlace}
    (hv : Value.okWide Try.prog w r b0 72 v) (h : DataW.Trod enc Try.prog w base spare held 72 v d p) :
    ∃ (A : Option Addr) (c : Nat) (l : List SOp), v = .slice A l.length c ∧ Kd.C kOp w A l.length l ∧ l.length ≤ c := by
  obtain ⟨A1, n1, c1, rfl⟩ := okWide_slice Try.underlying72 hv
  obtain ⟨m, hm⟩ := h
  obtain ⟨l, ⟨A, c, e, hl, hc⟩, _⟩ := opens_slice Try.underlying72 opens_op (by kernel_rfl) hm
  have e1 : Value.slice A1 n1 c1 = .slice A l.length c := by simpa [Value.cells] using e
  exact ⟨A, c, l, e1, hc, hl⟩
end Go.Proofs.Ytbfhohpbldadbaa.P

namespace Go.Proofs.Ytbfhohpbldadbaa.P
open Go Go.RowKit Go.Proofs.YtbfhohpbldadbaaW.PrintWords Go.Proofs.YtbfhohpbldadbaaW.PrintLast Go.Proofs.YtbfhohpbldadbaaW.PrintMore
set_option linter.unusedVariables false
set_option linter.unusedSimpArgs false
theorem ChInv.low {w W : World} {g n : Nat} (h : ChInv w W g n) : Below w.heap.size w W := by
  obtain ⟨_, _, _, _, _, _, _, _, _, _, _, _, _, _, _, hC, _⟩ := h
  exact hC.low
end Go.Proofs.Ytbfhohpbldadbaa.P

namespace Go.Proofs.Ytbfhohpbldadbaa.P
open Go Go.RowKit Go.Proofs.YtbfhohpbldadbaaW.PrintWords Go.Proofs.YtbfhohpbldadbaaW.PrintLast Go.Proofs.YtbfhohpbldadbaaW.PrintMore
set_option linter.unusedVariables false
set_option linter.unusedSimpArgs false
/-- While the messages l are being delivered to r: s has at most bs batches, r at most b or one more whose acknowledgement is in l. -/
structure St13 (s r : S61) (l : List S83) (D : Int) (bs b : Nat) : Prop where
  q : s.f0.length = 0 ∨ (∃ m ∈ l, m.f1 = false ∧ m.f0 = s.f1) ∨ (r.f2 = s.f1 + 1 ∧ r.f4 = true)
  p : r.f0.length ≤ b ∨ (r.f0.length ≤ b + 1 ∧ ∃ m ∈ l, m.f1 = true ∧ m.f0 = r.f1 + 1)
  d : r.f5 ≤ D
  n : s.f0.length ≤ bs
/-- Polling in a round. -/
theorem Inv.poll13 {x0 x1 : S61} {l0 l1 : List S83} {r0 r1 : List S39} {now D : Int} {N bs b : Nat} (h : Inv x0 x1 l0 l1 r0 r1 now N) (hN : N ≤ 1000000) (h0 : x0.f5 ≤ now) (h1 : x1.f5 ≤ D) (hs : x0.f0.length ≤ bs)
    (hb : x1.f0.length ≤ b ∨ (x1.f0.length ≤ b + 1 ∧ x0.f2 = x1.f1 + 1 ∧ x0.f4 = true)) :
    ∃ x l, pollF x0 now = (x, l, 0) ∧ Inv x x1 l0 (l1 ++ l) r0 r1 now N ∧ l.length ≤ 2 ∧ St13 x x1 (l1 ++ l) D bs b := by
  obtain ⟨x, l, hq, hI, hl⟩ := h.poll hN
  have hc := h.chk hN
  have hv : oddT now = false := by have := h.now0; have := h.now1; simp [oddT]; omega
  have he := poll_eq hc hv
  rw [hq] at he
  injection he with e1 e2
  injection e2 with e2 e3
  subst e1 e2
  refine ⟨_, _, hq, hI, hl, ⟨?_, ?_, h1, hs⟩⟩
  · show x0.f0.length = 0 ∨ _
    by_cases hz : x0.f0.length = 0
    · exact Or.inl hz
    · refine Or.inr (Or.inl ⟨⟨x0.f1, false, x0.f0.headD []⟩, ?_, rfl, rfl⟩)
      refine List.mem_append_right _ ?_
      unfold pollL
      refine List.mem_append_left _ ?_
      rw [if_pos (by unfold sendB; simp only [Bool.and_eq_true, Bool.or_eq_true, decide_eq_true_eq]; exact ⟨by omega, Or.inr h0⟩)]
      exact List.mem_singleton.2 rfl
  · rcases hb with hb | ⟨hb, he, ho⟩
    · exact Or.inl hb
    · refine Or.inr ⟨hb, ⟨x0.f2, true, []⟩, ?_, rfl, he⟩
      refine List.mem_append_right _ ?_
      unfold pollL
      refine List.mem_append_right _ ?_
      rw [if_pos ho]
      exact List.mem_singleton.2 rfl
/-- What a delivery does. -/
theorem recv_forms {c x : S61} {b : S83} {now : Int} (hc : clCheck c.f0 c.f1 c.f2 c.f5 = 0) (h : recvF c b now = (x, 0)) :
    (b.f1 = true ∧ ((b.f0 ≤ c.f1 ∧ x = c) ∨ (b.f0 = c.f1 + 1 ∧ x = ⟨c.f0.drop 1, c.f1 + 1, c.f2, c.f3, c.f4, -1⟩) ∨ (c.f1 + 1 < b.f0))) ∨
    (b.f1 = false ∧ b.f0 ≤ c.f2 ∧ x.f0 = c.f0 ∧ x.f1 = c.f1 ∧ x.f2 = (if b.f0 = c.f2 then c.f2 + 1 else c.f2) ∧ x.f4 = true ∧ x.f5 = c.f5) := by
  by_cases hv : oddT now = true ∨ oddT b.f0 = true ∨ validBatch b = false
  · unfold recvF at h
    rw [if_neg (by rw [hc]; simp), if_pos hv] at h
    injection h with _ h
    cases h
  · rw [recv_eq hc hv] at h
    cases hf : b.f1
    · right
      rw [hf, if_neg (by simp)] at h
      unfold accF at h
      by_cases h1 : c.f2 < b.f0
      · rw [if_pos h1] at h
        injection h with _ h
        cases h
      · rw [if_neg h1] at h
        by_cases h2 : b.f0 = c.f2
        · rw [if_pos h2] at h
          injection h with h _
          subst h
          exact ⟨rfl, by omega, rfl, rfl, by rw [if_pos h2], rfl, rfl⟩
        · rw [if_neg h2] at h
          injection h with h _
          subst h
          exact ⟨rfl, by omega, rfl, rfl, by rw [if_neg h2], rfl, rfl⟩
    · left
      rw [hf, if_pos rfl] at h
      unfold ackF at h
      refine ⟨rfl, ?_⟩
      by_cases h1 : b.f0 ≤ c.f1
      · rw [if_pos h1] at h
        injection h with h _
        exact Or.inl ⟨h1, h.symm⟩
      · rw [if_neg h1] at h
        by_cases h2 : c.f1 + 1 < b.f0
        · exact Or.inr (Or.inr h2)
        · by_cases h3 : c.f5 = -1
          · rw [if_pos (Or.inr h3)] at h
            injection h with _ h
            cases h
          · rw [if_neg (fun hx => hx.elim h2 h3)] at h
            injection h with h _
            exact Or.inr (Or.inl ⟨by omega, h.symm⟩)
/-- A delivery in a round, to the end 1; the message is no longer under way. -/
theorem Inv.deliver13 {x0 x1 : S61} {l0 l1 l1' : List S83} {r0 r1 : List S39} {now D : Int} {N bs b : Nat} (h : Inv x0 x1 l0 l1 r0 r1 now N) (hN : N ≤ 1000000) (hD : 0 ≤ D) (hS : St13 x0 x1 l1 D bs b) (m : S83) (hm : m ∈ l1) (hl : ∀ q ∈ l1, q = m ∨ q ∈ l1') (hl' : ∀ q ∈ l1', q ∈ l1) :
    ∃ x, recvF x1 m now = (x, 0) ∧ Inv x0 x l0 l1 r0 r1 now N ∧ Inv x0 x l0 l1' r0 r1 now N ∧ St13 x0 x l1' D bs b := by
  obtain ⟨x, hq, hI⟩ := h.swap.deliver hN m hm
  have hc := h.swap.chk hN
  obtain ⟨B, F, E, d, hB⟩ := h.d0
  obtain ⟨B', F', E', d', hB'⟩ := h.d1
  have he := d.eb
  have hfe : E = F ∨ E = F + 1 := by rcases d.fe with h | ⟨h, _⟩ <;> omega
  have hd := h.now0
  refine ⟨x, hq, hI.swap, (hI.lose0 hl').swap, ?_⟩
  rcases recv_forms hc hq with ⟨hf, hx⟩ | ⟨hf, hle, e0, e1, e2, e4, e5⟩
  · have hacc : ∃ n : Nat, m.f0 = n ∧ n ≤ E' := by
      obtain ⟨n, h1, h2, _⟩ := d'.ack m hm hf
      exact ⟨n, h1, h2⟩
    obtain ⟨n, hn, hnE⟩ := hacc
    have hE' : E' ≤ F' + 1 := by rcases d'.fe with h | ⟨h, _⟩ <;> omega
    have hf1 := d'.f
    rcases hx with ⟨hx, rfl⟩ | ⟨hx, rfl⟩ | hx
    · refine ⟨?_, ?_, hS.d, hS.n⟩
      · rcases hS.q with h | ⟨q, hq, h1, h2⟩ | h
        · exact Or.inl h
        · refine Or.inr (Or.inl ⟨q, ?_, h1, h2⟩)
          rcases hl q hq with rfl | h
          · rw [hf] at h1; cases h1
          · exact h
        · exact Or.inr (Or.inr h)
      · rcases hS.p with h | ⟨h, q, hq, h1, h2⟩
        · exact Or.inl h
        · refine Or.inr ⟨h, q, ?_, h1, h2⟩
          rcases hl q hq with rfl | h
          · omega
          · exact h
    · refine ⟨?_, ?_, by show (-1 : Int) ≤ D; omega, hS.n⟩
      · rcases hS.q with h | ⟨q, hq, h1, h2⟩ | h
        · exact Or.inl h
        · refine Or.inr (Or.inl ⟨q, ?_, h1, h2⟩)
          rcases hl q hq with rfl | h
          · rw [hf] at h1; cases h1
          · exact h
        · exact Or.inr (Or.inr h)
      · left
        show (x1.f0.drop 1).length ≤ b
        rw [List.length_drop]
        rcases hS.p with h | ⟨h, _⟩ <;> omega
    · omega
  · refine ⟨?_, ?_, by rw [e5]; exact hS.d, hS.n⟩
    · rw [e2, e4]
      have hdE := d.e
      have hdF := d.f
      rcases hS.q with h | ⟨q, hq, h1, h2⟩ | h
      · exact Or.inl h
      · rcases hl q hq with rfl | hh
        · refine Or.inr (Or.inr ⟨?_, rfl⟩)
          split <;> omega
        · exact Or.inr (Or.inl ⟨q, hh, h1, h2⟩)
      · refine Or.inr (Or.inr ⟨?_, rfl⟩)
        obtain ⟨n, g1, g2, _⟩ := d.dat m hm hf
        rw [if_neg (by omega)]
        exact h.1
    · rw [e0, e1]
      rcases hS.p with h | ⟨h, q, hq, h1, h2⟩
      · exact Or.inl h
      · refine Or.inr ⟨h, q, ?_, h1, h2⟩
        rcases hl q hq with rfl | h
        · rw [hf] at h1; cases h1
        · exact h
/-- All is delivered: nothing is left to send. -/
theorem Dir.all {s r : S61} {toR toS : List S83} {B : List (List S39)} {off : List S39} {F E : Nat} (h : Dir s r toR toS B off F E) (h0 : s.f0.length = 0) : r.f3 = off := by
  have he := h.eb
  have ho := congrArg List.length h.o
  rw [List.length_drop] at ho
  have hE : E = B.length := by omega
  rw [h.i, h.off, hE, List.take_length]
/-- Ahead of a round. -/
structure Rd13 (x0 x1 : S61) (j : Nat) : Prop where
  a : x0.f0.length ≤ 64 - j
  c : x1.f0.length ≤ 65 - j
  p : x1.f0.length ≤ 64 - j ∨ (x1.f0.length ≤ 64 - j + 1 ∧ x0.f2 = x1.f1 + 1 ∧ x0.f4 = true)
theorem Rd13.start {x0 x1 : S61} {l0 l1 : List S83} {r0 r1 : List S39} {now : Int} {N : Nat} (h : Inv x0 x1 l0 l1 r0 r1 now N) : Rd13 x0 x1 0 :=
  ⟨h.s0.n, Nat.le_succ_of_le h.s1.n, Or.inl h.s1.n⟩
theorem Rd13.mid {x0 x1 : S61} {now : Int} {j : Nat} (h : St13 x0 x1 [] now (64 - j) (64 - j)) : x0.f0.length ≤ 64 - (j + 1) ∨ (x0.f0.length ≤ 64 - (j + 1) + 1 ∧ x1.f2 = x0.f1 + 1 ∧ x1.f4 = true) := by
  have hn := h.n
  rcases h.q with h | ⟨m, hm, _⟩ | h
  · left; omega
  · simp at hm
  · by_cases hz : x0.f0.length = 0
    · left; omega
    · right; exact ⟨by omega, h⟩
theorem St13.len {s r : S61} {now : Int} {bs b : Nat} (h : St13 s r [] now bs b) : r.f0.length ≤ b := by
  rcases h.p with h | ⟨_, m, hm, _⟩
  · exact h
  · simp at hm
theorem Rd13.next {x0 x1 : S61} {now : Int} {j : Nat} (h : St13 x1 x0 [] now (64 - j) (64 - (j + 1))) : Rd13 x0 x1 (j + 1) := by
  have hn := h.n
  refine ⟨h.len, by omega, ?_⟩
  rcases h.q with h | ⟨m, hm, _⟩ | h
  · left; omega
  · simp at hm
  · by_cases hz : x1.f0.length = 0
    · left; omega
    · right; exact ⟨by omega, h⟩
theorem Side.le {s : S61} {now : Int} (h : Side s now) (h0 : 0 ≤ now) : s.f5 ≤ now + 3 := by
  rcases h.d with h | ⟨_, _, h⟩ <;> omega
/-- A message is taken off at the end. -/
theorem last_take {l : List S83} (h : 0 < l.length) : l.take (l.length - 1) ++ l.drop (l.length - 1 + 1) = l.dropLast := by
  rw [List.drop_of_length_le (by omega), List.append_nil, List.dropLast_eq_take]
theorem last_mem {l : List S83} (h : 0 < l.length) : ∀ q ∈ l, q = l[l.length - 1] ∨ q ∈ l.dropLast := fun q hq => by
  have e : l = l.dropLast ++ [l[l.length - 1]] := by
    have h1 := List.dropLast_concat_getLast (l := l) (by intro e; rw [e] at h; simp at h)
    rw [List.getLast_eq_getElem] at h1
    exact h1.symm
  rw [e] at hq
  rcases List.mem_append.1 hq with h | h
  · exact Or.inr h
  · exact Or.inl (List.mem_singleton.1 h)
end Go.Proofs.Ytbfhohpbldadbaa.P

namespace Go.Proofs.Ytbfhohpbldadbaa.P
open Go Go.RowKit Go.Proofs.YtbfhohpbldadbaaW.PrintWords Go.Proofs.YtbfhohpbldadbaaW.PrintLast Go.Proofs.YtbfhohpbldadbaaW.PrintMore
set_option linter.unusedVariables false
set_option linter.unusedSimpArgs false
/-- Some channel that keeps to the protocol, N operations old, with at most m0, m1 messages under way, of which P holds. -/
def Ch13 (w W : World) (g N m0 m1 : Nat) (P : S61 → S61 → List S83 → List S83 → Int → Prop) : Prop :=
  ∃ vo0 vi0 x0 vo1 vi1 x1 w0 w1 l0 l1 p0 p1 r0 r1 now, Chan w W g vo0 vi0 x0 vo1 vi1 x1 w0 w1 l0 l1 p0 p1 r0 r1 now ∧ Inv x0 x1 l0 l1 r0 r1 now N ∧ l0.length ≤ m0 ∧ l1.length ≤ m1 ∧ P x0 x1 l0 l1 now
def wayLen (W : World) (g k : Nat) : Nat := match W.cell? ⟨g, k, none⟩ with
  | some (.slice _ n _) => n
  | _ => 0
theorem wayLen_eq {W : World} {g k : Nat} {A : Option Addr} {n c : Nat} (h : W.cell? ⟨g, k, none⟩ = some (.slice A n c)) : wayLen W g k = n := by
  unfold wayLen; rw [h]
theorem Chan.wl0 {w W : World} {g : Nat} {vo0 vi0 : Value} {x0 : S61} {vo1 vi1 : Value} {x1 : S61} {w0 w1 : Value} {l0 l1 : List S83} {p0 p1 : Value} {r0 r1 : List S39} {now : Int} (h : Chan w W g vo0 vi0 x0 vo1 vi1 x1 w0 w1 l0 l1 p0 p1 r0 r1 now) : wayLen W g 12 = l0.length := by
  obtain ⟨A, c, hv⟩ := Kd.R_slice h.ww0
  have hc := h.blk.c12
  rw [hv] at hc
  exact wayLen_eq hc
theorem Chan.wl1 {w W : World} {g : Nat} {vo0 vi0 : Value} {x0 : S61} {vo1 vi1 : Value} {x1 : S61} {w0 w1 : Value} {l0 l1 : List S83} {p0 p1 : Value} {r0 r1 : List S39} {now : Int} (h : Chan w W g vo0 vi0 x0 vo1 vi1 x1 w0 w1 l0 l1 p0 p1 r0 r1 now) : wayLen W g 13 = l1.length := by
  obtain ⟨A, c, hv⟩ := Kd.R_slice h.ww1
  have hc := h.blk.c13
  rw [hv] at hc
  exact wayLen_eq hc
theorem last_num {n : Nat} (h : 0 < n) : (n : Int) - 1 = ((n - 1 : Nat) : Int) := by omega
/-- Delivering the last message to 0. -/
theorem delL0 (w W : World) (g : Nat) (vo0 vi0 : Value) (x0 : S61) (vo1 vi1 : Value) (x1 : S61) (w0 w1 : Value) (l0 l1 : List S83) (p0 p1 : Value) (r0 r1 : List S39) (now : Int) (h : Chan w W g vo0 vi0 x0 vo1 vi1 x1 w0 w1 l0 l1 p0 p1 r0 r1 now) (hl : x0.f3.length ≤ 1000000) (hi : 0 < l0.length) (hw : l0.length ≤ 1000000) (x : S61) (heq : recvF x0 (l0[l0.length - 1]'(by omega)) now = (x, 0)) (n : Int) (hn : n = ((l0.length - 1 : Nat) : Int)) :
    Calls Try.prog 37 #[.pointer (some ⟨g, 0, none⟩), .int .i64 0, .int .i64 n] W fun e W' => e = .returned (.bool true) ∧ ∃ vo vi, Chan w W' g vo vi x vo1 vi1 x1 w0 w1 l0 l1 p0 p1 r0 r1 now := by
  subst hn
  refine (delCh0 w W g vo0 vi0 x0 vo1 vi1 x1 w0 w1 l0 l1 p0 p1 r0 r1 now h hl (l0.length - 1) (by omega) hw _ rfl x 0 heq).mono ?_
  rintro e W' (⟨hne, _⟩ | ⟨_, he, hC⟩)
  · exact absurd rfl hne
  · exact ⟨he, hC⟩
/-- It is taken off. -/
theorem loseL0 (w W : World) (g : Nat) (vo0 vi0 : Value) (x0 : S61) (vo1 vi1 : Value) (x1 : S61) (w0 w1 : Value) (l0 l1 : List S83) (p0 p1 : Value) (r0 r1 : List S39) (now : Int) (h : Chan w W g vo0 vi0 x0 vo1 vi1 x1 w0 w1 l0 l1 p0 p1 r0 r1 now) (hi : 0 < l0.length) (hw : l0.length ≤ 1000000) (n : Int) (hn : n = ((l0.length - 1 : Nat) : Int)) :
    Calls Try.prog 41 #[.pointer (some ⟨g, 0, none⟩), .int .i64 0, .int .i64 n] W fun e W' => e = .returned (.tuple #[]) ∧ ∃ wv, Chan w W' g vo0 vi0 x0 vo1 vi1 x1 wv w1 l0.dropLast l1 p0 p1 r0 r1 now := by
  subst hn
  refine (loseCh0 w W g vo0 vi0 x0 vo1 vi1 x1 w0 w1 l0 l1 p0 p1 r0 r1 now h (l0.length - 1) (by omega) hw).mono ?_
  rintro e W' ⟨he, wv, hC⟩
  rw [last_take hi] at hC
  exact ⟨he, wv, hC⟩
/-- Delivering the last message to 1. -/
theorem delL1 (w W : World) (g : Nat) (vo0 vi0 : Value) (x0 : S61) (vo1 vi1 : Value) (x1 : S61) (w0 w1 : Value) (l0 l1 : List S83) (p0 p1 : Value) (r0 r1 : List S39) (now : Int) (h : Chan w W g vo0 vi0 x0 vo1 vi1 x1 w0 w1 l0 l1 p0 p1 r0 r1 now) (hl : x1.f3.length ≤ 1000000) (hi : 0 < l1.length) (hw : l1.length ≤ 1000000) (x : S61) (heq : recvF x1 (l1[l1.length - 1]'(by omega)) now = (x, 0)) (n : Int) (hn : n = ((l1.length - 1 : Nat) : Int)) :
    Calls Try.prog 37 #[.pointer (some ⟨g, 0, none⟩), .int .i64 1, .int .i64 n] W fun e W' => e = .returned (.bool true) ∧ ∃ vo vi, Chan w W' g vo0 vi0 x0 vo vi x w0 w1 l0 l1 p0 p1 r0 r1 now := by
  subst hn
  refine (delCh1 w W g vo0 vi0 x0 vo1 vi1 x1 w0 w1 l0 l1 p0 p1 r0 r1 now h hl (l1.length - 1) (by omega) hw _ rfl x 0 heq).mono ?_
  rintro e W' (⟨hne, _⟩ | ⟨_, he, hC⟩)
  · exact absurd rfl hne
  · exact ⟨he, hC⟩
/-- It is taken off. -/
theorem loseL1 (w W : World) (g : Nat) (vo0 vi0 : Value) (x0 : S61) (vo1 vi1 : Value) (x1 : S61) (w0 w1 : Value) (l0 l1 : List S83) (p0 p1 : Value) (r0 r1 : List S39) (now : Int) (h : Chan w W g vo0 vi0 x0 vo1 vi1 x1 w0 w1 l0 l1 p0 p1 r0 r1 now) (hi : 0 < l1.length) (hw : l1.length ≤ 1000000) (n : Int) (hn : n = ((l1.length - 1 : Nat) : Int)) :
    Calls Try.prog 41 #[.pointer (some ⟨g, 0, none⟩), .int .i64 1, .int .i64 n] W fun e W' => e = .returned (.tuple #[]) ∧ ∃ wv, Chan w W' g vo0 vi0 x0 vo1 vi1 x1 w0 wv l0 l1.dropLast p0 p1 r0 r1 now := by
  subst hn
  refine (loseCh1 w W g vo0 vi0 x0 vo1 vi1 x1 w0 w1 l0 l1 p0 p1 r0 r1 now h (l1.length - 1) (by omega) hw).mono ?_
  rintro e W' ⟨he, wv, hC⟩
  rw [last_take hi] at hC
  exact ⟨he, wv, hC⟩
theorem sameE (A1 : Option Addr) (c1 : Nat) (A2 : Option Addr) (c2 : Nat) (a b : List S39) (w : World) (he : a = b) (h1 : Kd.C k39 w A1 a.length a) (l1 : a.length ≤ c1) (h2 : Kd.C k39 w A2 b.length b) (l2 : b.length ≤ c2) (hl : a.length ≤ 2000000) :
    Calls Try.prog 42 #[.slice A1 a.length c1, .slice A2 b.length c2] w fun e w' => e = .returned (.bool true) ∧ Below w.heap.size w w' := by
  subst he
  exact sameR A1 c1 A2 c2 a w h1 l1 h2 l2 hl
set_option maxHeartbeats 32000000 in
set_option maxRecDepth 100000 in
theorem law13_walk (A0 : Option Addr) (c0 : Nat) (l : List SOp) (w : World) (hr : Kd.C kOp w A0 l.length l) :
    Calls Try.prog 13 #[.slice A0 l.length c0] w (fun e w' => e = .returned (.bool true) ∧ Below w.heap.size w w') := by
  have HR := Lib.hid hr
  clear hr
  go_enter Try.func13, Try.ntmps13
  go_wp2_with fail
  refine (sane30_calls w).mono ?_
  rintro e w1 ⟨rfl, hb⟩
  have B := Lib.hid hb
  clear hb
  by_cases hlen : (100 : Int) < l.length
  · go_wp2_with fail
    go_ret
    exact ⟨rfl, B.out⟩
  · have HLEN := Lib.hid (show l.length ≤ 100 by omega)
    go_wp2_with fail
    refine (start_calls_ w1).mono ?_
    rintro e w2 ⟨g, rfl, hC⟩
    have CI := Lib.hid (show ChInv w1 w2 g 0 from ⟨_, _, _, _, _, _, _, _, _, _, _, _, _, _, _, hC, Inv.start, by simp, by simp⟩)
    clear hC hlen
    go_wp2_with fail
    go_loopw [4] (fun v4 Wc => ∃ j : Nat, v4 = .int .i64 (j : Int) ∧ j ≤ l.length ∧ ChInv w1 Wc g j) (fun i _ => l.length - (intOf i).toNat)
    case atStart => exact ⟨0, rfl, Nat.zero_le _, CI.out⟩
    case round =>
      obtain ⟨j, rfl, hj, hI⟩ := hrel
      have HJ := Lib.hid hj
      replace CI := Lib.hid hI
      clear hj hI
      by_cases hlt : j < l.length
      · have HLT := Lib.hid hlt
        have hjl : (j : Int) < (l.length : Int) := by omega
        have hj0 : (0 : Int) ≤ (j : Int) := by omega
        obtain ⟨ad, hA, hat⟩ := O_cell (Kd.C_below (Kd.C_below HR.out B.out) CI.out.low) j hlt hlt
        subst hA
        obtain ⟨o, ho⟩ : ∃ o, o = l[j]'hlt := ⟨_, rfl⟩
        rw [← ho] at hat
        have o0 := hat.c0; have o1 := hat.c1; have o2 := hat.c2; have o3 := hat.c3; have o4 := hat.c4
        clear hat ho hlt
        go_wp2_with fail
        refine (stepCh w1 wr g j (by have := HJ.out; have := HLEN.out; omega) CI.out o.f0 o.f1 o.f2 o.f3 o.f4).mono ?_
        rintro e w4 ⟨rfl, hCI⟩
        replace CI := Lib.hid hCI
        clear hCI o0 o1 o2 o3 o4
        go_wp2_with fail
        go_roundw
        case rel => exact ⟨j + 1, rfl, HLT.out, CI.out⟩
        case measure =>
          have := HLT.out
          simp only [intOf]
          omega
      · have hjl : ¬ ((j : Int) < (l.length : Int)) := by omega
        have CR := Lib.hid (show Ch13 w1 wr g (l.length + 0) 200 200 (fun x0 x1 l0 l1 now => Rd13 x0 x1 0) by
          obtain ⟨vo0, vi0, x0, vo1, vi1, x1, v0, v1, l0, l1, p0, p1, r0, r1, now, hC, hI, hl0, hl1⟩ := CI.out
          have hjj : j = l.length := by have := HJ.out; omega
          rw [hjj] at hI
          have := HJ.out; have := HLEN.out
          exact ⟨vo0, vi0, x0, vo1, vi1, x1, v0, v1, l0, l1, p0, p1, r0, r1, now, hC, hI, by omega, by omega, Rd13.start hI⟩)
        clear CI HJ hlt
        go_wp2_with fail
        go_loopw [5] (fun v5 Wc => ∃ j : Nat, v5 = .int .i64 (j : Int) ∧ j ≤ 66 ∧ Ch13 w1 Wc g (l.length + j) 200 200 (fun x0 x1 l0 l1 now => Rd13 x0 x1 j)) (fun i _ => 66 - (intOf i).toNat)
        case atStart => exact ⟨0, rfl, by decide, CR.out⟩
        case round =>
          obtain ⟨j, rfl, hj, hI⟩ := hrel
          have HJ := Lib.hid hj
          replace CR := Lib.hid hI
          clear hj hI hjl
          by_cases hlt : j < 66
          · have hjl : (j : Int) < 66 := by omega
            have HLT := Lib.hid hlt
            obtain ⟨vo0, vi0, x0, vo1, vi1, x1, v0, v1, l0, l1, p0, p1, r0, r1, now, hC, hI, hl0, hl1, hP⟩ := CR.out
            have hnow := hI.now0
            have hnow1 := hI.now1
            have hI2 := hI.wait (d := 3) (by decide) (by decide)
            have hd0 := hI.s0.le hnow
            have hd1 := hI.s1.le hnow
            have C := Lib.hid hC; have I2 := Lib.hid hI2; have PP := Lib.hid hP; have L0 := Lib.hid hl0; have L1 := Lib.hid hl1; have D0 := Lib.hid hd0; have D1 := Lib.hid hd1
            have hwt : wrap64 (now + 3) = now + 3 := wid (by have := HLEN.out; omega) (by have := HLEN.out; omega)
            have HWT := Lib.hid hwt; have NOW := Lib.hid hnow
            clear hC hI hI2 hP hl0 hl1 hd0 hd1 hlt hnow hnow1 hwt CR
            have c16 := C.out.blk.c16
            have fz := blk_frozen C.out.blk
            go_wp2_with fail
            have CT := Lib.hid (C.out.time (wrap64 (now + 3)))
            rw [HWT.out] at CT ⊢
            have CE := Lib.hid (show Ch13 w1 (wr.setCell ⟨g, 16, none⟩ (.int .i64 (now + 3))) g (l.length + j + 1) 200 200 (fun x0 x1 l0 l1 now => Rd13 x0 x1 j ∧ x0.f5 ≤ now ∧ x1.f5 ≤ now) from ⟨_, _, _, _, _, _, _, _, _, _, _, _, _, _, _, CT.out, I2.out, L0.out, L1.out, PP.out, D0.out, D1.out⟩)
            clear CT C I2 PP L0 L1 D0 D1 HWT NOW c16 fz
            generalize wr.setCell ⟨g, 16, none⟩ (.int .i64 (now + 3)) = w5 at CE ⊢
            generalize now + 3 = now3
            go_loopw [6] (fun v6 Wc => (v6 = .int .i64 0 ∧ Ch13 w1 Wc g (l.length + j + 1) 200 200 (fun x0 x1 l0 l1 now => Rd13 x0 x1 j ∧ x0.f5 ≤ now ∧ x1.f5 ≤ now)) ∨ (v6 = .int .i64 1 ∧ Ch13 w1 Wc g (l.length + j + 1) 200 200 (fun x0 x1 l0 l1 now => l1 = [] ∧ St13 x0 x1 [] now (64 - j) (64 - j))) ∨ (v6 = .int .i64 2 ∧ Ch13 w1 Wc g (l.length + j + 1) 200 200 (fun x0 x1 l0 l1 now => Rd13 x0 x1 (j + 1)))) (fun v _ => 2 - (intOf v).toNat)
            case atStart => exact Or.inl ⟨rfl, CE.out⟩
            case round =>
              clear CE
              rcases hrel with ⟨rfl, hE⟩ | ⟨rfl, hE⟩ | ⟨rfl, hE⟩
              · obtain ⟨vo0, vi0, x0, vo1, vi1, x1, v0, v1, l0, l1, p0, p1, r0, r1, now, hC, hI, hl0, hl1, hR, hf0, hf1⟩ := hE
                obtain ⟨x, q, hq, hI2, hql, hS⟩ := hI.poll13 (D := now) (by have := HLEN.out; have := HLT.out; omega) hf0 hf1 hR.a hR.p
                obtain ⟨B0, F0, E0, dd0, hB0⟩ := hI.d1
                have SM := Lib.hid (dd0.small hB0).1
                have C := Lib.hid hC; have HQ := Lib.hid hq; have I2 := Lib.hid hI2; have HQL := Lib.hid hql; have SS := Lib.hid hS; have L0 := Lib.hid hl0; have L1 := Lib.hid hl1
                clear hC hI hq hI2 hql hR hf0 hf1 hS hl0 hl1 dd0 hB0 B0 F0 E0
                go_wp2_with fail
                refine (pollCh0 w1 wr g _ _ _ _ _ _ _ _ _ _ _ _ _ _ _ C.out (by have := SM.out; have := HLEN.out; have := HLT.out; omega) (by have := L1.out; omega) x q 0 HQ.out HQL.out).mono ?_
                rintro e w6 (⟨hne, _⟩ | ⟨_, rfl, vo, vi, wv, hC⟩)
                · exact absurd rfl hne
                have CS := Lib.hid (show Ch13 w1 w6 g (l.length + j + 1) 200 202 (fun x0 x1 l0 l1 now => St13 x0 x1 l1 now (64 - j) (64 - j)) from ⟨_, _, _, _, _, _, _, _, _, _, _, _, _, _, _, hC, I2.out, L0.out, (by rw [List.length_append]; have := L1.out; have := HQL.out; omega), SS.out⟩)
                clear hC SM C HQ I2 HQL SS L0 L1
                go_wp2_with fail
                go_loopw [] (fun Wc => Ch13 w1 Wc g (l.length + j + 1) 200 202 (fun x0 x1 l0 l1 now => St13 x0 x1 l1 now (64 - j) (64 - j))) (fun Wc => wayLen Wc g 13)
                case atStart => exact CS.out
                case round =>
                  clear CS
                  obtain ⟨vo0, vi0, x0, vo1, vi1, x1, v0, v1, l0, l1, p0, p1, r0, r1, now, hC, hI, hl0, hl1, hS⟩ := hrel
                  obtain ⟨AW, cW, hvw⟩ := Kd.R_slice hC.ww1
                  subst hvw
                  have C := Lib.hid hC; have L0 := Lib.hid hl0; have L1 := Lib.hid hl1
                  have cw := C.out.blk.c13
                  by_cases hlt : 0 < l1.length
                  · have HLW := Lib.hid hlt
                    have hlt' : (0 : Int) < (l1.length : Int) := by omega
                    have hidx : l1.length - 1 < l1.length := Nat.sub_lt hlt (by decide)
                    obtain ⟨x, hq, _, hI3, hS2⟩ := hI.deliver13 (l1' := l1.dropLast) (by have := HLEN.out; have := HLT.out; omega) (by have := hI.now0; omega) hS (l1[l1.length - 1]'hidx) (List.getElem_mem _) (last_mem hlt) (fun q hq => List.dropLast_subset _ hq)
                    obtain ⟨B0, F0, E0, dd0, hB0⟩ := hI.d0
                    have SM := Lib.hid (dd0.small hB0).1
                    have HQ := Lib.hid hq; have I3 := Lib.hid hI3; have SS := Lib.hid hS2
                    clear hC hI hl0 hl1 hS hq hI3 hS2 dd0 hB0 B0 F0 E0
                    go_wp2_with fail
                    refine (delL1 w1 wr g _ _ _ _ _ _ _ _ _ _ _ _ _ _ _ C.out (by have := SM.out; have := HLEN.out; have := HLT.out; omega) HLW.out (by have := L1.out; omega) x HQ.out _ (by first | exact last_num HLW.out | (rw [wid (by have := L1.out; omega) (by have := L1.out; omega)]; exact last_num HLW.out))).mono ?_
                    rintro e w7 ⟨rfl, vo, vi, hC7⟩
                    have C7 := Lib.hid hC7
                    clear hC7 cw
                    have cw := C7.out.blk.c13
                    go_wp2_with fail
                    refine (loseL1 w1 w7 g _ _ _ _ _ _ _ _ _ _ _ _ _ _ _ C7.out HLW.out (by have := L1.out; omega) _ (by first | exact last_num HLW.out | (rw [wid (by have := L1.out; omega) (by have := L1.out; omega)]; exact last_num HLW.out))).mono ?_
                    rintro e w8 ⟨rfl, wv, hC8⟩
                    have C8 := Lib.hid hC8
                    clear hC8 cw
                    go_wp2_with fail
                    go_roundw
                    case rel => exact ⟨_, _, _, _, _, _, _, _, _, _, _, _, _, _, _, C8.out, I3.out, L0.out, (by rw [List.length_dropLast]; have := L1.out; omega), SS.out⟩
                    case measure =>
                      rw [C8.out.wl1, C.out.wl1, List.length_dropLast]
                      have := HLW.out
                      omega
                  · have hz : l1.length = 0 := by omega
                    have hzl : l1 = [] := List.length_eq_zero_iff.1 hz
                    have CZ := Lib.hid (show Ch13 w1 wr g (l.length + j + 1) 200 200 (fun x0 x1 l0 l1 now => l1 = [] ∧ St13 x0 x1 [] now (64 - j) (64 - j)) from ⟨_, _, _, _, _, _, _, _, _, _, _, _, _, _, _, hC, hI, hl0, by omega, hzl, by rw [hzl] at hS; exact hS⟩)
                    rw [hz] at cw
                    clear hC hI hl0 hl1 hS hlt hz hzl
                    go_wp2_with fail
                    go_roundw
                    case rel => exact Or.inr (Or.inl ⟨rfl, CZ.out⟩)
                    case measure => simp [intOf]
              · obtain ⟨vo0, vi0, x0, vo1, vi1, x1, v0, v1, l0, l1, p0, p1, r0, r1, now, hC, hI, hl0, hl1, hz, hS⟩ := hE
                obtain ⟨x, q, hq, hI2, hql, hS2⟩ := hI.swap.poll13 (D := now + 3) (bs := 64 - j) (b := 64 - (j + 1)) (by have := HLEN.out; have := HLT.out; omega) hS.d (hI.s0.le hI.now0) hS.len (Rd13.mid hS)
                obtain ⟨B0, F0, E0, dd0, hB0⟩ := hI.d0
                have SM := Lib.hid (dd0.small hB0).1
                have C := Lib.hid hC; have HQ := Lib.hid hq; have I2 := Lib.hid hI2; have HQL := Lib.hid hql; have SS := Lib.hid hS2; have L0 := Lib.hid hl0; have L1 := Lib.hid hl1
                clear hC hI hq hI2 hql hz hS hS2 hl0 hl1 dd0 hB0 B0 F0 E0
                go_wp2_with fail
                refine (pollCh1 w1 wr g _ _ _ _ _ _ _ _ _ _ _ _ _ _ _ C.out (by have := SM.out; have := HLEN.out; have := HLT.out; omega) (by have := L0.out; omega) x q 0 HQ.out HQL.out).mono ?_
                rintro e w6 (⟨hne, _⟩ | ⟨_, rfl, vo, vi, wv, hC⟩)
                · exact absurd rfl hne
                have CS := Lib.hid (show Ch13 w1 w6 g (l.length + j + 1) 202 200 (fun x0 x1 l0 l1 now => St13 x1 x0 l0 (now + 3) (64 - j) (64 - (j + 1))) from ⟨_, _, _, _, _, _, _, _, _, _, _, _, _, _, _, hC, I2.out.swap, (by rw [List.length_append]; have := L0.out; have := HQL.out; omega), L1.out, SS.out⟩)
                clear hC SM C HQ I2 HQL SS L0 L1
                go_wp2_with fail
                go_loopw [] (fun Wc => Ch13 w1 Wc g (l.length + j + 1) 202 200 (fun x0 x1 l0 l1 now => St13 x1 x0 l0 (now + 3) (64 - j) (64 - (j + 1)))) (fun Wc => wayLen Wc g 12)
                case atStart => exact CS.out
                case round =>
                  clear CS
                  obtain ⟨vo0, vi0, x0, vo1, vi1, x1, v0, v1, l0, l1, p0, p1, r0, r1, now, hC, hI, hl0, hl1, hS⟩ := hrel
                  obtain ⟨AW, cW, hvw⟩ := Kd.R_slice hC.ww0
                  subst hvw
                  have C := Lib.hid hC; have L0 := Lib.hid hl0; have L1 := Lib.hid hl1
                  have cw := C.out.blk.c12
                  by_cases hlt : 0 < l0.length
                  · have HLW := Lib.hid hlt
                    have hlt' : (0 : Int) < (l0.length : Int) := by omega
                    have hidx : l0.length - 1 < l0.length := Nat.sub_lt hlt (by decide)
                    obtain ⟨x, hq, _, hI3, hS2⟩ := hI.swap.deliver13 (l1' := l0.dropLast) (by have := HLEN.out; have := HLT.out; omega) (by have := hI.now0; omega) hS (l0[l0.length - 1]'hidx) (List.getElem_mem _) (last_mem hlt) (fun q hq => List.dropLast_subset _ hq)
                    obtain ⟨B0, F0, E0, dd0, hB0⟩ := hI.d1
                    have SM := Lib.hid (dd0.small hB0).1
                    have HQ := Lib.hid hq; have I3 := Lib.hid hI3; have SS := Lib.hid hS2
                    clear hC hI hl0 hl1 hS hq hI3 hS2 dd0 hB0 B0 F0 E0
                    go_wp2_with fail
                    refine (delL0 w1 wr g _ _ _ _ _ _ _ _ _ _ _ _ _ _ _ C.out (by have := SM.out; have := HLEN.out; have := HLT.out; omega) HLW.out (by have := L0.out; omega) x HQ.out _ (by first | exact last_num HLW.out | (rw [wid (by have := L0.out; omega) (by have := L0.out; omega)]; exact last_num HLW.out))).mono ?_
                    rintro e w7 ⟨rfl, vo, vi, hC7⟩
                    have C7 := Lib.hid hC7
                    clear hC7 cw
                    have cw := C7.out.blk.c12
                    go_wp2_with fail
                    refine (loseL0 w1 w7 g _ _ _ _ _ _ _ _ _ _ _ _ _ _ _ C7.out HLW.out (by have := L0.out; omega) _ (by first | exact last_num HLW.out | (rw [wid (by have := L0.out; omega) (by have := L0.out; omega)]; exact last_num HLW.out))).mono ?_
                    rintro e w8 ⟨rfl, wv, hC8⟩
                    have C8 := Lib.hid hC8
                    clear hC8 cw
                    go_wp2_with fail
                    go_roundw
                    case rel => exact ⟨_, _, _, _, _, _, _, _, _, _, _, _, _, _, _, C8.out, I3.out.swap, (by rw [List.length_dropLast]; have := L0.out; omega), L1.out, SS.out⟩
                    case measure =>
                      rw [C8.out.wl0, C.out.wl0, List.length_dropLast]
                      have := HLW.out
                      omega
                  · have hz : l0.length = 0 := by omega
                    have hzl : l0 = [] := List.length_eq_zero_iff.1 hz
                    have CZ := Lib.hid (show Ch13 w1 wr g (l.length + j + 1) 200 200 (fun x0 x1 l0 l1 now => Rd13 x0 x1 (j + 1)) from ⟨_, _, _, _, _, _, _, _, _, _, _, _, _, _, _, hC, hI, by omega, hl1, Rd13.next (by rw [hzl] at hS; exact hS)⟩)
                    rw [hz] at cw
                    clear hC hI hl0 hl1 hS hlt hz hzl
                    go_wp2_with fail
                    go_roundw
                    case rel => exact Or.inr (Or.inr ⟨rfl, CZ.out⟩)
                    case measure => simp [intOf]
              · have CZ := Lib.hid hE
                clear hE
                go_wp2_with fail
                go_roundw
                case rel => exact ⟨j + 1, rfl, HLT.out, CZ.out⟩
                case measure =>
                  have := HLT.out
                  simp only [intOf]
                  omega
          · have hjl : ¬ ((j : Int) < 66) := by omega
            have hj66 : j = 66 := by have := HJ.out; omega
            obtain ⟨vo0, vi0, x0, vo1, vi1, x1, v0, v1, l0, l1, p0, p1, r0, r1, now, hC, hI, hl0, hl1, hP⟩ := CR.out
            have hz0 : x0.f0.length = 0 := by have := hP.a; omega
            have hz1 : x1.f0.length = 0 := by have := hP.c; omega
            obtain ⟨B0, F0, E0, dd0, hB0⟩ := hI.d0
            obtain ⟨B1, F1, E1, dd1, hB1⟩ := hI.d1
            have X1 := Lib.hid (show x1.f3 = r0 ∧ x1.f3.length ≤ 2000000 from ⟨dd0.all hz0, by have := (dd0.small hB0).1; have := HLEN.out; omega⟩)
            have X0 := Lib.hid (show x0.f3 = r1 ∧ x0.f3.length ≤ 2000000 from ⟨dd1.all hz1, by have := (dd1.small hB1).1; have := HLEN.out; omega⟩)
            obtain ⟨AO0, cO0, hvo0⟩ := Kd.V_slice hC.o0
            obtain ⟨AO1, cO1, hvo1⟩ := Kd.V_slice hC.o1
            obtain ⟨AI0, cI0, hvi0⟩ := Kd.V_slice hC.i0
            obtain ⟨AI1, cI1, hvi1⟩ := Kd.V_slice hC.i1
            obtain ⟨AP0, cP0, hp0⟩ := Kd.R_slice hC.pp0
            obtain ⟨AP1, cP1, hp1⟩ := Kd.R_slice hC.pp1
            subst hvo0 hvo1 hvi0 hvi1 hp0 hp1
            have C := Lib.hid hC; have Z0 := Lib.hid hz0; have Z1 := Lib.hid hz1
            clear hC hI hl0 hl1 hP hz0 hz1 dd0 dd1 hB0 hB1 CR hj66 hlt
            go_wp2_with fail
            replace C := Lib.hid (C.out.below (below_drew (Below.refl _ _)))
            refine start_ (n := 27) (S := fun w' => w'.cell? ⟨g, 9, none⟩ = some (.slice AI1 x1.f3.length cI1) ∧ w'.cell? ⟨g, 14, none⟩ = some (.slice AP0 r0.length cP0) ∧ w'.cell? ⟨g, 3, none⟩ = some (.slice AI0 x0.f3.length cI0) ∧ w'.cell? ⟨g, 15, none⟩ = some (.slice AP1 r1.length cP1)) (ds := []) #[false, false, false, false, false, false, false, false, false, false, false, false, false, false, false, false, false, false, false, false, false, false, false, false, false, false, false] (by kernel_rfl) rfl rfl ⟨C.out.blk.c9, C.out.blk.c14, C.out.blk.c3, C.out.blk.c15⟩ (fun hHeld => ?_)
            generalize wr.drew = w9 at C hHeld ⊢
            refine pure_ (i := 0) (N := some 83) (v := ?_) (a' := ?_) #[true, false, false, false, false, false, false, false, false, false, false, false, false, false, false, false, false, false, false, false, false, false, false, false, false, false, false] rfl rfl (by kernel_rfl) (fun _ _ _ h => h) (Or.inl ⟨by rfl, ?_⟩) ?_ ?_
            rotate_left
            · intro w'
              go_simp
              with_reducible rfl
            rotate_left
            · simp only [Act.put, List.setIfInBounds_toArray, List.set_cons_zero, List.set_cons_succ, i64_w, i32_w]
              rfl
            refine pure_ (i := 1) (N := some 84) (v := ?_) (a' := ?_) #[true, true, false, false, false, false, false, false, false, false, false, false, false, false, false, false, false, false, false, false, false, false, false, false, false, false, false] rfl rfl (by kernel_rfl) (fun _ _ _ h => h) (Or.inl ⟨by rfl, ?_⟩) ?_ ?_
            rotate_left
            · intro w'
              go_simp
              with_reducible rfl
            rotate_left
            · simp only [Act.put, List.setIfInBounds_toArray, List.set_cons_zero, List.set_cons_succ, i64_w, i32_w]
              rfl
            refine pure_ (i := 2) (N := some 85) (v := ?_) (a' := ?_) #[true, true, true, false, false, false, false, false, false, false, false, false, false, false, false, false, false, false, false, false, false, false, false, false, false, false, false] rfl rfl (by kernel_rfl) (fun _ _ _ h => h) (Or.inl ⟨by rfl, ?_⟩) ?_ ?_
            rotate_left
            · intro w'
              go_simp
              with_reducible rfl
            rotate_left
            · simp only [Act.put, List.setIfInBounds_toArray, List.set_cons_zero, List.set_cons_succ, i64_w, i32_w]
              rfl
            refine pure_ (i := 3) (N := some 86) (v := ?_) (a' := ?_) #[true, true, true, true, false, false, false, false, false, false, false, false, false, false, false, false, false, false, false, false, false, false, false, false, false, false, false] rfl rfl (by kernel_rfl) (fun _ _ _ h => h) (Or.inl ⟨by rfl, ?_⟩) ?_ ?_
            rotate_left
            · intro w'
              go_simp
              with_reducible rfl
            rotate_left
            · simp only [Act.put, List.setIfInBounds_toArray, List.set_cons_zero, List.set_cons_succ, i64_w, i32_w]
              rfl
            refine pure_ (i := 4) (N := some 87) (v := ?_) (a' := ?_) #[true, true, true, true, true, false, false, false, false, false, false, false, false, false, false, false, false, false, false, false, false, false, false, false, false, false, false] rfl rfl (by kernel_rfl) (fun _ _ _ h => h) (Or.inl ⟨by rfl, ?_⟩) ?_ ?_
            rotate_left
            · intro w'
              go_simp
              with_reducible rfl
            rotate_left
            · simp only [Act.put, List.setIfInBounds_toArray, List.set_cons_zero, List.set_cons_succ, i64_w, i32_w]
              rfl
            refine pure_ (i := 6) (N := some 89) (v := ?_) (a' := ?_) #[true, true, true, true, true, false, true, false, false, false, false, false, false, false, false, false, false, false, false, false, false, false, false, false, false, false, false] rfl rfl (by kernel_rfl) (fun _ _ _ h => h) (Or.inl ⟨by rfl, ?_⟩) ?_ ?_
            rotate_left
            · intro w'
              go_simp
              with_reducible rfl
            rotate_left
            · simp only [Act.put, List.setIfInBounds_toArray, List.set_cons_zero, List.set_cons_succ, i64_w, i32_w]
              rfl
            refine pure_ (i := 7) (N := some 90) (v := ?_) (a' := ?_) #[true, true, true, true, true, false, true, true, false, false, false, false, false, false, false, false, false, false, false, false, false, false, false, false, false, false, false] rfl rfl (by kernel_rfl) (fun _ _ _ h => h) (Or.inl ⟨by rfl, ?_⟩) ?_ ?_
            rotate_left
            · intro w'
              go_simp
              with_reducible rfl
            rotate_left
            · simp only [Act.put, List.setIfInBounds_toArray, List.set_cons_zero, List.set_cons_succ, i64_w, i32_w]
              rfl
            refine pure_ (i := 8) (N := some 91) (v := ?_) (a' := ?_) #[true, true, true, true, true, false, true, true, true, false, false, false, false, false, false, false, false, false, false, false, false, false, false, false, false, false, false] rfl rfl (by kernel_rfl) (fun _ _ _ h => h) (Or.inl ⟨by rfl, ?_⟩) ?_ ?_
            rotate_left
            · intro w'
              go_simp
              with_reducible rfl
            rotate_left
            · simp only [Act.put, List.setIfInBounds_toArray, List.set_cons_zero, List.set_cons_succ, i64_w, i32_w]
              rfl
            refine pure_ (i := 9) (N := some 92) (v := ?_) (a' := ?_) #[true, true, true, true, true, false, true, true, true, true, false, false, false, false, false, false, false, false, false, false, false, false, false, false, false, false, false] rfl rfl (by kernel_rfl) (fun _ _ _ h => h) (Or.inl ⟨by rfl, ?_⟩) ?_ ?_
            rotate_left
            · intro w'
              go_simp
              with_reducible rfl
            rotate_left
            · simp only [Act.put, List.setIfInBounds_toArray, List.set_cons_zero, List.set_cons_succ, i64_w, i32_w]
              rfl
            refine take_ (i := 5) (N := some 88) (v := ?_) (a' := ?_) #[true, true, true, true, true, true, true, true, true, true, false, false, false, false, false, false, false, false, false, false, false, false, false, false, false, false, false] rfl rfl (by kernel_rfl) (fun _ _ _ h => h) (Or.inl ⟨by rfl, ?_⟩) hHeld ?_ ?_
            rotate_left
            · rintro w' ⟨s0, s1, s2, s3⟩
              go_simp
              with_reducible rfl
            rotate_left
            · simp only [Act.put, List.setIfInBounds_toArray, List.set_cons_zero, List.set_cons_succ, i64_w, i32_w]
              rfl
            refine take_ (i := 10) (N := some 93) (v := ?_) (a' := ?_) #[true, true, true, true, true, true, true, true, true, true, true, false, false, false, false, false, false, false, false, false, false, false, false, false, false, false, false] rfl rfl (by kernel_rfl) (fun _ _ _ h => h) (Or.inl ⟨by rfl, ?_⟩) hHeld ?_ ?_
            rotate_left
            · rintro w' ⟨s0, s1, s2, s3⟩
              go_simp
              with_reducible rfl
            rotate_left
            · simp only [Act.put, List.setIfInBounds_toArray, List.set_cons_zero, List.set_cons_succ, i64_w, i32_w]
              rfl
            refine one_ (i := 11) (N := some 94) #[true, true, true, true, true, true, true, true, true, true, true, true, false, false, false, false, false, false, false, false, false, false, false, false, false, false, false] rfl rfl (by kernel_rfl) (by decide) (fun K hK => ?_)
            refine goes_ Try.func42 (by kernel_rfl) rfl #[.slice AI1 x1.f3.length cI1, .slice AP0 r0.length cP0] (by rfl) rfl rfl (by simp only [List.map_toArray, List.map_cons, List.map_nil]; rfl) ?_
            with_reducible refine (sameE AI1 cI1 AP0 cP0 x1.f3 r0 _ X1.out.1 (Kd.V_reads' C.out.i1).2.2 (Kd.V_reads' C.out.i1).2.1 (Kd.R_reads' C.out.pp0).2.2 (Kd.R_reads' C.out.pp0).2.1 X1.out.2).mono ?_
            rintro e w20 ⟨rfl, hb⟩
            refine ⟨_, rfl, ?_⟩
            replace C := Lib.hid (C.out.below hb)
            clear hb
            refine hK.out _ _ ⟨C.out.blk.c9, C.out.blk.c14, C.out.blk.c3, C.out.blk.c15⟩ (fun hHeld => ?_)
            clear hK K
            refine norm_ (a' := ?_) ?_ ?_
            rotate_left
            · show Act.put _ (some 94) _ = _
              simp only [Act.put, List.setIfInBounds_toArray, List.set_cons_zero, List.set_cons_succ, i64_w, i32_w]
              rfl
            refine pure_ (i := 12) (N := some 95) (v := ?_) (a' := ?_) #[true, true, true, true, true, true, true, true, true, true, true, true, true, false, false, false, false, false, false, false, false, false, false, false, false, false, false] rfl rfl (by kernel_rfl) (fun _ _ _ h => h) (Or.inl ⟨by rfl, ?_⟩) ?_ ?_
            rotate_left
            · intro w'
              go_simp
              with_reducible rfl
            rotate_left
            · simp only [Act.put, List.setIfInBounds_toArray, List.set_cons_zero, List.set_cons_succ, i64_w, i32_w]
              rfl
            refine pure_ (i := 13) (N := some 96) (v := ?_) (a' := ?_) #[true, true, true, true, true, true, true, true, true, true, true, true, true, true, false, false, false, false, false, false, false, false, false, false, false, false, false] rfl rfl (by kernel_rfl) (fun _ _ _ h => h) (Or.inl ⟨by rfl, ?_⟩) ?_ ?_
            rotate_left
            · intro w'
              go_simp
              with_reducible rfl
            rotate_left
            · simp only [Act.put, List.setIfInBounds_toArray, List.set_cons_zero, List.set_cons_succ, i64_w, i32_w]
              rfl
            refine pure_ (i := 14) (N := some 97) (v := ?_) (a' := ?_) #[true, true, true, true, true, true, true, true, true, true, true, true, true, true, true, false, false, false, false, false, false, false, false, false, false, false, false] rfl rfl (by kernel_rfl) (fun _ _ _ h => h) (Or.inl ⟨by rfl, ?_⟩) ?_ ?_
            rotate_left
            · intro w'
              go_simp
              with_reducible rfl
            rotate_left
            · simp only [Act.put, List.setIfInBounds_toArray, List.set_cons_zero, List.set_cons_succ, i64_w, i32_w]
              rfl
            refine pure_ (i := 15) (N := some 98) (v := ?_) (a' := ?_) #[true, true, true, true, true, true, true, true, true, true, true, true, true, true, true, true, false, false, false, false, false, false, false, false, false, false, false] rfl rfl (by kernel_rfl) (fun _ _ _ h => h) (Or.inl ⟨by rfl, ?_⟩) ?_ ?_
            rotate_left
            · intro w'
              go_simp
              with_reducible rfl
            rotate_left
            · simp only [Act.put, List.setIfInBounds_toArray, List.set_cons_zero, List.set_cons_succ, i64_w, i32_w]
              rfl
            refine pure_ (i := 16) (N := some 99) (v := ?_) (a' := ?_) #[true, true, true, true, true, true, true, true, true, true, true, true, true, true, true, true, true, false, false, false, false, false, false, false, false, false, false] rfl rfl (by kernel_rfl) (fun _ _ _ h => h) (Or.inl ⟨by rfl, ?_⟩) ?_ ?_
            rotate_left
            · intro w'
              go_simp
              with_reducible rfl
            rotate_left
            · simp only [Act.put, List.setIfInBounds_toArray, List.set_cons_zero, List.set_cons_succ, i64_w, i32_w]
              rfl
            refine pure_ (i := 17) (N := some 100) (v := ?_) (a' := ?_) #[true, true, true, true, true, true, true, true, true, true, true, true, true, true, true, true, true, true, false, false, false, false, false, false, false, false, false] rfl rfl (by kernel_rfl) (fun _ _ _ h => h) (Or.inl ⟨by rfl, ?_⟩) ?_ ?_
            rotate_left
            · intro w'
              go_simp
              with_reducible rfl
            rotate_left
            · simp only [Act.put, List.setIfInBounds_toArray, List.set_cons_zero, List.set_cons_succ, i64_w, i32_w]
              rfl
            refine pure_ (i := 19) (N := some 102) (v := ?_) (a' := ?_) #[true, true, true, true, true, true, true, true, true, true, true, true, true, true, true, true, true, true, false, true, false, false, false, false, false, false, false] rfl rfl (by kernel_rfl) (fun _ _ _ h => h) (Or.inl ⟨by rfl, ?_⟩) ?_ ?_
            rotate_left
            · intro w'
              go_simp
              with_reducible rfl
            rotate_left
            · simp only [Act.put, List.setIfInBounds_toArray, List.set_cons_zero, List.set_cons_succ, i64_w, i32_w]
              rfl
            refine pure_ (i := 20) (N := some 103) (v := ?_) (a' := ?_) #[true, true, true, true, true, true, true, true, true, true, true, true, true, true, true, true, true, true, false, true, true, false, false, false, false, false, false] rfl rfl (by kernel_rfl) (fun _ _ _ h => h) (Or.inl ⟨by rfl, ?_⟩) ?_ ?_
            rotate_left
            · intro w'
              go_simp
              with_reducible rfl
            rotate_left
            · simp only [Act.put, List.setIfInBounds_toArray, List.set_cons_zero, List.set_cons_succ, i64_w, i32_w]
              rfl
            refine pure_ (i := 21) (N := some 104) (v := ?_) (a' := ?_) #[true, true, true, true, true, true, true, true, true, true, true, true, true, true, true, true, true, true, false, true, true, true, false, false, false, false, false] rfl rfl (by kernel_rfl) (fun _ _ _ h => h) (Or.inl ⟨by rfl, ?_⟩) ?_ ?_
            rotate_left
            · intro w'
              go_simp
              with_reducible rfl
            rotate_left
            · simp only [Act.put, List.setIfInBounds_toArray, List.set_cons_zero, List.set_cons_succ, i64_w, i32_w]
              rfl
            refine pure_ (i := 22) (N := some 105) (v := ?_) (a' := ?_) #[true, true, true, true, true, true, true, true, true, true, true, true, true, true, true, true, true, true, false, true, true, true, true, false, false, false, false] rfl rfl (by kernel_rfl) (fun _ _ _ h => h) (Or.inl ⟨by rfl, ?_⟩) ?_ ?_
            rotate_left
            · intro w'
              go_simp
              with_reducible rfl
            rotate_left
            · simp only [Act.put, List.setIfInBounds_toArray, List.set_cons_zero, List.set_cons_succ, i64_w, i32_w]
              rfl
            refine take_ (i := 18) (N := some 101) (v := ?_) (a' := ?_) #[true, true, true, true, true, true, true, true, true, true, true, true, true, true, true, true, true, true, true, true, true, true, true, false, false, false, false] rfl rfl (by kernel_rfl) (fun _ _ _ h => h) (Or.inl ⟨by rfl, ?_⟩) hHeld ?_ ?_
            rotate_left
            · rintro w' ⟨s0, s1, s2, s3⟩
              go_simp
              with_reducible rfl
            rotate_left
            · simp only [Act.put, List.setIfInBounds_toArray, List.set_cons_zero, List.set_cons_succ, i64_w, i32_w]
              rfl
            refine take_ (i := 23) (N := some 106) (v := ?_) (a' := ?_) #[true, true, true, true, true, true, true, true, true, true, true, true, true, true, true, true, true, true, true, true, true, true, true, true, false, false, false] rfl rfl (by kernel_rfl) (fun _ _ _ h => h) (Or.inl ⟨by rfl, ?_⟩) hHeld ?_ ?_
            rotate_left
            · rintro w' ⟨s0, s1, s2, s3⟩
              go_simp
              with_reducible rfl
            rotate_left
            · simp only [Act.put, List.setIfInBounds_toArray, List.set_cons_zero, List.set_cons_succ, i64_w, i32_w]
              rfl
            refine one_ (i := 24) (N := some 107) #[true, true, true, true, true, true, true, true, true, true, true, true, true, true, true, true, true, true, true, true, true, true, true, true, true, false, false] rfl rfl (by kernel_rfl) (by decide) (fun K hK => ?_)
            refine goes_ Try.func42 (by kernel_rfl) rfl #[.slice AI0 x0.f3.length cI0, .slice AP1 r1.length cP1] (by rfl) rfl rfl (by simp only [List.map_toArray, List.map_cons, List.map_nil]; rfl) ?_
            with_reducible refine (sameE AI0 cI0 AP1 cP1 x0.f3 r1 _ X0.out.1 (Kd.V_reads' C.out.i0).2.2 (Kd.V_reads' C.out.i0).2.1 (Kd.R_reads' C.out.pp1).2.2 (Kd.R_reads' C.out.pp1).2.1 X0.out.2).mono ?_
            rintro e w21 ⟨rfl, hb⟩
            refine ⟨_, rfl, ?_⟩
            replace C := Lib.hid (C.out.below hb)
            clear hb
            refine hK.out _ _ ⟨C.out.blk.c9, C.out.blk.c14, C.out.blk.c3, C.out.blk.c15⟩ (fun hHeld => ?_)
            clear hK K
            refine norm_ (a' := ?_) ?_ ?_
            rotate_left
            · show Act.put _ (some 107) _ = _
              simp only [Act.put, List.setIfInBounds_toArray, List.set_cons_zero, List.set_cons_succ, i64_w, i32_w]
              rfl
            refine pure_ (i := 25) (N := some 108) (v := ?_) (a' := ?_) #[true, true, true, true, true, true, true, true, true, true, true, true, true, true, true, true, true, true, true, true, true, true, true, true, true, true, false] rfl rfl (by kernel_rfl) (fun _ _ _ h => h) (Or.inl ⟨by rfl, ?_⟩) ?_ ?_
            rotate_left
            · intro w'
              go_simp
              with_reducible rfl
            rotate_left
            · simp only [Act.put, List.setIfInBounds_toArray, List.set_cons_zero, List.set_cons_succ, i64_w, i32_w]
              rfl
            refine pure_ (i := 26) (N := some 7) (v := ?_) (a' := ?_) #[true, true, true, true, true, true, true, true, true, true, true, true, true, true, true, true, true, true, true, true, true, true, true, true, true, true, true] rfl rfl (by kernel_rfl) (fun _ _ _ h => h) (Or.inl ⟨by rfl, ?_⟩) ?_ ?_
            rotate_left
            · intro w'
              go_simp
              with_reducible rfl
            rotate_left
            · simp only [Act.put, List.setIfInBounds_toArray, List.set_cons_zero, List.set_cons_succ, i64_w, i32_w]
              rfl
            refine done_ (by kernel_rfl) ?_

            have d0 := C.out.blk.c0; have d6 := C.out.blk.c6
            rw [Z0.out] at d0
            rw [Z1.out] at d6
            clear hHeld
            go_wp2_with fail
            go_ret
            exact ⟨rfl, bb B.out C.out.low⟩
end Go.Proofs.Ytbfhohpbldadbaa.P

