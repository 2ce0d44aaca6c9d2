/- Texts of this claim, merged and cut to what its theorem reaches, by a program of this session: words and contracts that the print (or a changed scratch copy of it) wrote, and own proofs. -/
import Derived.Test.YtbfhohpbldadbaaEaS1
import Derived.Below
import Derived.Deep.Draws
import Derived.Deep.AppendLies
import Derived.Maps.AppendAt
import Derived.OwnWalk
import Derived.Laws.BytesArg
import Derived.Laws.MakeOwn
import Derived.Laws.OwnMore
import Derived.Deep.OwnRows
import Derived.Tactics
import Derived.Lib.ConvBytes
import Derived.Laws.Slices
import Derived.WalkKit
import Derived.KernelRfl
import Derived.RowKit3
import Derived.Deep.LoopGhost
import Derived.Deep.QuietTactic
import Derived.BigQuiet
import Derived.WideLaws
import Derived.Deep.DeepCutAuto
import Derived.Deep.CutBlock
import Derived.Deep.RegionHeld3
import Derived.Laws.Rows
import Derived.Lib.AppendStr
import Derived.ArgAppend
import Derived.Laws.IdiomCopy
import Derived.RowKit
import Derived.Laws.StructEq
import Derived.Test.YtbfhohpbldadbaaProg
import Derived.OrdersHeld
import Derived.Laws.BitsLemmas
import Derived.Lib.Hide
import Derived.WalkSpells
import Derived.Lib.OthersKept
import Derived.Lib.TrimU
import Derived.Laws.RangeAny
import Derived.Maps.Keyed
import Derived.WideKeyRuns
import Derived.Lib.SliceRun
import Derived.Deep.RegionWith
import Derived.ProofKit
import Derived.OpenShut
import Derived.ChangeOld
import Derived.SizedLaws
import Derived.Deep.Slices
import Derived.Lib.SmallJoins
import Derived.Test.YtbfhohpbldadbaaEa3
namespace Go.Proofs.Ytbfhohpbldadbaa.P
open Go Go.RowKit Go.Proofs.YtbfhohpbldadbaaW.PrintWords Go.Proofs.YtbfhohpbldadbaaW.PrintLast Go.Proofs.YtbfhohpbldadbaaW.PrintMore
set_option linter.unusedVariables false
set_option linter.unusedSimpArgs false
theorem Inv.next {x0 x1 : S61} {l0 l1 : List S83} {r0 r1 : List S39} {now : Int} {N : Nat} (h : Inv x0 x1 l0 l1 r0 r1 now N) : Inv x0 x1 l0 l1 r0 r1 now (N + 1) := by
  have := h.wait (d := 0) (by decide) (by decide)
  rwa [Int.add_zero] at this
theorem lose_len (l : List S83) (i m : Nat) (h : l.length ≤ m) : (l.take i ++ l.drop (i + 1)).length ≤ m := by
  rw [List.length_append, List.length_take, List.length_drop]; omega
theorem pick_ex (p : Int) {n : Nat} (hn : n ≠ 0) : ∃ i : Nat, (Go.bits .and .i64 p 65535).tmod (n : Int) = (i : Int) ∧ i < n := by
  have hb := and_16b p
  have h1 := Int.tmod_nonneg (n : Int) hb.1
  have h2 := Int.tmod_lt_of_pos (Go.bits .and .i64 p 65535) (show (0 : Int) < (n : Int) by omega)
  exact ⟨((Go.bits .and .i64 p 65535).tmod (n : Int)).toNat, (Int.toNat_of_nonneg h1).symm, by omega⟩
set_option maxHeartbeats 16000000 in
set_option maxRecDepth 100000 in
theorem delF0 (w W : World) (g : Nat) (vo0 vi0 : Value) (x0 : S61) (vo1 vi1 : Value) (x1 : S61) (w0 w1 : Value) (l0 l1 : List S83) (p0 p1 : Value) (r0 r1 : List S39) (now : Int) (h : Chan w W g vo0 vi0 x0 vo1 vi1 x1 w0 w1 l0 l1 p0 p1 r0 r1 now) (hl : x0.f3.length ≤ 1000000) (i : Nat) (hi : i < l0.length) (hw : l0.length ≤ 1000000) (b : S83) (hbi : l0[i]'hi = b) (x : S61) (r : Int) (heq : recvF x0 b now = (x, r)) :
    Calls Try.prog 37 #[.pointer (some ⟨g, 0, none⟩), .int .i64 0, .int .i64 i] W fun e W' => (r ≠ 0 ∧ e = .returned (.bool false) ∧ Below W.heap.size W W') ∨ (r = 0 ∧ e = .returned (.bool true) ∧ (∃ vo vi, Chan w W' g vo vi x vo1 vi1 x1 w0 w1 l0 l1 p0 p1 r0 r1 now) ∧ Fr (fun k => k = g) W W') := by
  obtain ⟨AO, cO, hvo⟩ := Kd.V_slice h.o0
  obtain ⟨AI, cI, hvi⟩ := Kd.V_slice h.i0
  obtain ⟨AW, cW, hvw⟩ := Kd.R_slice h.ww0
  subst hvo hvi hvw
  obtain ⟨ad, A2, k2, hA, hat⟩ := B83_cell (Kd.R_reads' h.ww0).2.2 i hi hi
  subst hA
  replace hat : AtB83 W (ad.add (i * 3)) b A2 k2 := by rw [← hbi]; exact hat
  have C := Lib.hid h; have HL := Lib.hid hl; have HQ := Lib.hid heq; have HI := Lib.hid hi; have AT0 := Lib.hid hat
  have i0 : (0 : Int) ≤ (i : Int) := by omega
  have i1 : (i : Int) < (l0.length : Int) := by omega
  clear h hl heq hbi hat hi hw
  go_enter Try.func37, Try.ntmps37
  go_wp2_with fail
  have HWS := Lib.hid (show Below W.heap.size W W.drew from below_drew (Below.refl _ _))
  have CD := Lib.hid (C.out.below (below_drew (Below.refl _ _)))
  have AT := Lib.hid (AT0.out.keep (below_drew (Below.refl _ _)))
  clear AT0
  refine start_ (n := 26) (S := fun w' => w'.cell? ⟨g, 0, none⟩ = some (.slice AO x0.f0.length cO) ∧ w'.cell? ⟨g, 1, none⟩ = some (.int .i64 x0.f1) ∧ w'.cell? ⟨g, 2, none⟩ = some (.int .i64 x0.f2) ∧ w'.cell? ⟨g, 3, none⟩ = some (.slice AI x0.f3.length cI) ∧ w'.cell? ⟨g, 4, none⟩ = some (.bool x0.f4) ∧ w'.cell? ⟨g, 5, none⟩ = some (.int .i64 x0.f5) ∧ w'.cell? ⟨g, 16, none⟩ = some (.int .i64 now) ∧ w'.cell? ⟨g, 12, none⟩ = some (.slice (some ad) l0.length cW) ∧ w'.cell? (ad.add (i * 3)) = some (.int .i64 b.f0) ∧ w'.cell? ⟨(ad.add (i * 3)).block, (ad.add (i * 3)).off + 1, none⟩ = some (.bool b.f1) ∧ w'.cell? ⟨(ad.add (i * 3)).block, (ad.add (i * 3)).off + 2, none⟩ = some (.slice A2 b.f2.length k2)) (ds := [24]) #[false, false, false, false, false, false, false, false, false, false, false, false, false, false, false, false, false, false, false, false, false, false, false, false, false, false] (by kernel_rfl) rfl rfl ⟨CD.out.blk.c0, CD.out.blk.c1, CD.out.blk.c2, CD.out.blk.c3, CD.out.blk.c4, CD.out.blk.c5, CD.out.blk.c16, CD.out.blk.c12, AT.out.c0, AT.out.c1, AT.out.c2⟩ (fun hHeld => ?_)
  generalize W.drew = wd at CD AT HWS hHeld ⊢
  refine pure_ (i := 0) (N := some 10) (v := ?_) (a' := ?_) #[true, false, false, false, false, false, false, false, false, false, false, false, false, false, false, false, false, false, false, false, false, false, false, false, false, false] rfl rfl (by kernel_rfl) (fun _ _ _ h => h) (Or.inl ⟨by rfl, ?_⟩) ?_ ?_
  rotate_left
  · intro w'
    go_simp
    with_reducible rfl
  rotate_left
  · simp only [Act.put, List.setIfInBounds_toArray, List.set_cons_zero, List.set_cons_succ, i64_w, i32_w]
    rfl
  refine pure_ (i := 1) (N := some 11) (v := ?_) (a' := ?_) #[true, true, false, false, false, false, false, false, false, false, false, false, false, false, false, false, false, false, false, false, false, false, false, false, false, false] rfl rfl (by kernel_rfl) (fun _ _ _ h => h) (Or.inl ⟨by rfl, ?_⟩) ?_ ?_
  rotate_left
  · intro w'
    go_simp
    with_reducible rfl
  rotate_left
  · simp only [Act.put, List.setIfInBounds_toArray, List.set_cons_zero, List.set_cons_succ, i64_w, i32_w]
    rfl
  refine pure_ (i := 2) (N := some 12) (v := ?_) (a' := ?_) #[true, true, true, false, false, false, false, false, false, false, false, false, false, false, false, false, false, false, false, false, false, false, false, false, false, false] rfl rfl (by kernel_rfl) (fun _ _ _ h => h) (Or.inl ⟨by rfl, ?_⟩) ?_ ?_
  rotate_left
  · intro w'
    go_simp
    with_reducible rfl
  rotate_left
  · simp only [Act.put, List.setIfInBounds_toArray, List.set_cons_zero, List.set_cons_succ, i64_w, i32_w]
    rfl
  refine pure_ (i := 3) (N := some 13) (v := ?_) (a' := ?_) #[true, true, true, true, false, false, false, false, false, false, false, false, false, false, false, false, false, false, false, false, false, false, false, false, false, false] rfl rfl (by kernel_rfl) (fun _ _ _ h => h) (Or.inl ⟨by rfl, ?_⟩) ?_ ?_
  rotate_left
  · intro w'
    go_simp
    with_reducible rfl
  rotate_left
  · simp only [Act.put, List.setIfInBounds_toArray, List.set_cons_zero, List.set_cons_succ, i64_w, i32_w]
    rfl
  refine pure_ (i := 4) (N := some 14) (v := ?_) (a' := ?_) #[true, true, true, true, true, false, false, false, false, false, false, false, false, false, false, false, false, false, false, false, false, false, false, false, false, false] rfl rfl (by kernel_rfl) (fun _ _ _ h => h) (Or.inl ⟨by rfl, ?_⟩) ?_ ?_
  rotate_left
  · intro w'
    go_simp
    with_reducible rfl
  rotate_left
  · simp only [Act.put, List.setIfInBounds_toArray, List.set_cons_zero, List.set_cons_succ, i64_w, i32_w]
    rfl
  refine pure_ (i := 6) (N := some 16) (v := ?_) (a' := ?_) #[true, true, true, true, true, false, true, false, false, false, false, false, false, false, false, false, false, false, false, false, false, false, false, false, false, false] rfl rfl (by kernel_rfl) (fun _ _ _ h => h) (Or.inl ⟨by rfl, ?_⟩) ?_ ?_
  rotate_left
  · intro w'
    go_simp
    with_reducible rfl
  rotate_left
  · simp only [Act.put, List.setIfInBounds_toArray, List.set_cons_zero, List.set_cons_succ, i64_w, i32_w]
    rfl
  refine pure_ (i := 7) (N := some 17) (v := ?_) (a' := ?_) #[true, true, true, true, true, false, true, true, false, false, false, false, false, false, false, false, false, false, false, false, false, false, false, false, false, false] rfl rfl (by kernel_rfl) (fun _ _ _ h => h) (Or.inl ⟨by rfl, ?_⟩) ?_ ?_
  rotate_left
  · intro w'
    go_simp
    with_reducible rfl
  rotate_left
  · simp only [Act.put, List.setIfInBounds_toArray, List.set_cons_zero, List.set_cons_succ, i64_w, i32_w]
    rfl
  refine pure_ (i := 8) (N := some 18) (v := ?_) (a' := ?_) #[true, true, true, true, true, false, true, true, true, false, false, false, false, false, false, false, false, false, false, false, false, false, false, false, false, false] rfl rfl (by kernel_rfl) (fun _ _ _ h => h) (Or.inl ⟨by rfl, ?_⟩) ?_ ?_
  rotate_left
  · intro w'
    go_simp
    with_reducible rfl
  rotate_left
  · simp only [Act.put, List.setIfInBounds_toArray, List.set_cons_zero, List.set_cons_succ, i64_w, i32_w]
    rfl
  refine pure_ (i := 9) (N := some 19) (v := ?_) (a' := ?_) #[true, true, true, true, true, false, true, true, true, true, false, false, false, false, false, false, false, false, false, false, false, false, false, false, false, false] rfl rfl (by kernel_rfl) (fun _ _ _ h => h) (Or.inl ⟨by rfl, ?_⟩) ?_ ?_
  rotate_left
  · intro w'
    go_simp
    with_reducible rfl
  rotate_left
  · simp only [Act.put, List.setIfInBounds_toArray, List.set_cons_zero, List.set_cons_succ, i64_w, i32_w]
    rfl
  refine pure_ (i := 10) (N := some 20) (v := ?_) (a' := ?_) #[true, true, true, true, true, false, true, true, true, true, true, false, false, false, false, false, false, false, false, false, false, false, false, false, false, false] rfl rfl (by kernel_rfl) (fun _ _ _ h => h) (Or.inl ⟨by rfl, ?_⟩) ?_ ?_
  rotate_left
  · intro w'
    go_simp
    with_reducible rfl
  rotate_left
  · simp only [Act.put, List.setIfInBounds_toArray, List.set_cons_zero, List.set_cons_succ, i64_w, i32_w]
    rfl
  refine pure_ (i := 12) (N := some 22) (v := ?_) (a' := ?_) #[true, true, true, true, true, false, true, true, true, true, true, false, true, false, false, false, false, false, false, false, false, false, false, false, false, false] rfl rfl (by kernel_rfl) (fun _ _ _ h => h) (Or.inl ⟨by rfl, ?_⟩) ?_ ?_
  rotate_left
  · intro w'
    go_simp
    with_reducible rfl
  rotate_left
  · simp only [Act.put, List.setIfInBounds_toArray, List.set_cons_zero, List.set_cons_succ, i64_w, i32_w]
    rfl
  refine pure_ (i := 15) (N := some 25) (v := ?_) (a' := ?_) #[true, true, true, true, true, false, true, true, true, true, true, false, true, false, false, true, false, false, false, false, false, false, false, false, false, false] rfl rfl (by kernel_rfl) (fun _ _ _ h => h) (Or.inl ⟨by rfl, ?_⟩) ?_ ?_
  rotate_left
  · intro w'
    go_simp
    with_reducible rfl
  rotate_left
  · simp only [Act.put, List.setIfInBounds_toArray, List.set_cons_zero, List.set_cons_succ, i64_w, i32_w]
    rfl
  refine pure_ (i := 16) (N := some 26) (v := ?_) (a' := ?_) #[true, true, true, true, true, false, true, true, true, true, true, false, true, false, false, true, true, false, false, false, false, false, false, false, false, false] rfl rfl (by kernel_rfl) (fun _ _ _ h => h) (Or.inl ⟨by rfl, ?_⟩) ?_ ?_
  rotate_left
  · intro w'
    go_simp
    with_reducible rfl
  rotate_left
  · simp only [Act.put, List.setIfInBounds_toArray, List.set_cons_zero, List.set_cons_succ, i64_w, i32_w]
    rfl
  refine pure_ (i := 17) (N := some 27) (v := ?_) (a' := ?_) #[true, true, true, true, true, false, true, true, true, true, true, false, true, false, false, true, true, true, false, false, false, false, false, false, false, false] rfl rfl (by kernel_rfl) (fun _ _ _ h => h) (Or.inl ⟨by rfl, ?_⟩) ?_ ?_
  rotate_left
  · intro w'
    go_simp
    with_reducible rfl
  rotate_left
  · simp only [Act.put, List.setIfInBounds_toArray, List.set_cons_zero, List.set_cons_succ, i64_w, i32_w]
    rfl
  refine take_ (i := 5) (N := some 15) (v := ?_) (a' := ?_) #[true, true, true, true, true, true, true, true, true, true, true, false, true, false, false, true, true, true, false, false, false, false, false, false, false, false] rfl rfl (by kernel_rfl) (fun _ _ _ h => h) (Or.inl ⟨by rfl, ?_⟩) hHeld ?_ ?_
  rotate_left
  · rintro w' ⟨s0, s1, s2, s3, s4, s5, s6, s7, s8, s9, s10⟩
    go_simp
    with_reducible rfl
  rotate_left
  · simp only [Act.put, List.setIfInBounds_toArray, List.set_cons_zero, List.set_cons_succ, i64_w, i32_w]
    rfl
  refine take_ (i := 11) (N := some 21) (v := ?_) (a' := ?_) #[true, true, true, true, true, true, true, true, true, true, true, true, true, false, false, true, true, true, false, false, false, false, false, false, false, false] rfl rfl (by kernel_rfl) (fun _ _ _ h => h) (Or.inl ⟨by rfl, ?_⟩) hHeld ?_ ?_
  rotate_left
  · rintro w' ⟨s0, s1, s2, s3, s4, s5, s6, s7, s8, s9, s10⟩
    go_simp
    with_reducible rfl
  rotate_left
  · simp only [Act.put, List.setIfInBounds_toArray, List.set_cons_zero, List.set_cons_succ, i64_w, i32_w]
    rfl
  refine pure_ (i := 13) (N := some 23) (v := ?_) (a' := ?_) #[true, true, true, true, true, true, true, true, true, true, true, true, true, true, false, true, true, true, false, false, false, false, false, false, false, false] rfl rfl (by kernel_rfl) (fun _ _ _ h => h) (Or.inl ⟨by rfl, ?_⟩) ?_ ?_
  rotate_left
  · intro w'
    go_simp
    with_reducible rfl
  rotate_left
  · simp only [Act.put, List.setIfInBounds_toArray, List.set_cons_zero, List.set_cons_succ, i64_w, i32_w]
    rfl
  refine take_ (i := 14) (N := some 24) (v := ?_) (a' := ?_) #[true, true, true, true, true, true, true, true, true, true, true, true, true, true, true, true, true, true, false, false, false, false, false, false, false, false] rfl rfl (by kernel_rfl) (fun _ _ _ h => h) (Or.inl ⟨by rfl, ?_⟩) hHeld ?_ ?_
  rotate_left
  · rintro w' ⟨s0, s1, s2, s3, s4, s5, s6, s7, s8, s9, s10⟩
    go_simp
    with_reducible rfl
  rotate_left
  · simp only [Act.put, List.setIfInBounds_toArray, List.set_cons_zero, List.set_cons_succ, i64_w, i32_w]
    rfl
  refine take_ (i := 18) (N := some 28) (v := ?_) (a' := ?_) #[true, true, true, true, true, true, true, true, true, true, true, true, true, true, true, true, true, true, true, false, false, false, false, false, false, false] rfl rfl (by kernel_rfl) (fun _ _ _ h => h) (Or.inl ⟨by rfl, ?_⟩) hHeld ?_ ?_
  rotate_left
  · rintro w' ⟨s0, s1, s2, s3, s4, s5, s6, s7, s8, s9, s10⟩
    go_simp
    with_reducible rfl
  rotate_left
  · simp only [Act.put, List.setIfInBounds_toArray, List.set_cons_zero, List.set_cons_succ, i64_w, i32_w]
    rfl
  refine join_ (σ := Nat × Option Addr × Nat × Option Addr × Nat) 2 #[true, true, true, true, true, true, true, true, true, true, true, true, true, true, true, true, true, true, true, true, true, true, true, true, false, false] (fun s => [(29, .tuple #[.agg #[.slice s.2.1 x.f0.length s.2.2.1, .int .i64 x.f1, .int .i64 x.f2, .slice s.2.2.2.1 x.f3.length s.2.2.2.2, .bool x.f4, .int .i64 x.f5], .int .i64 r]), (7, .pointer (some ⟨s.1, 0, none⟩)), (9, .tuple #[.agg #[.slice s.2.1 x.f0.length s.2.2.1, .int .i64 x.f1, .int .i64 x.f2, .slice s.2.2.2.1 x.f3.length s.2.2.2.2, .bool x.f4, .int .i64 x.f5], .int .i64 r]), (30, .agg #[.slice s.2.1 x.f0.length s.2.2.1, .int .i64 x.f1, .int .i64 x.f2, .slice s.2.2.2.1 x.f3.length s.2.2.2.2, .bool x.f4, .int .i64 x.f5]), (31, .int .i64 r)]) (fun s w' => Below wd.heap.size wd w' ∧ wd.heap.size ≤ s.1 ∧ EBlk w' s.1 61 (.slice none 0 0) 0 0 (.slice none 0 0) false 0 ∧ Kd.V kL 28 w' 0 (fun k => wd.heap.size ≤ k ∧ k ≠ s.1) (.slice s.2.1 x.f0.length s.2.2.1) x.f0 ∧ Kd.V k39 39 w' 0 (fun k => wd.heap.size ≤ k ∧ k ≠ s.1) (.slice s.2.2.2.1 x.f3.length s.2.2.2.2) x.f3) ?_ ?_
  rotate_left
  · intro hCont
    refine two_ (i := 19) (j := 23) (Ni := some 29) (Nj := some 7) #[true, true, true, true, true, true, true, true, true, true, true, true, true, true, true, true, true, true, true, true, false, false, false, false, false, false] #[true, true, true, true, true, true, true, true, true, true, true, true, true, true, true, true, true, true, true, false, false, false, false, true, false, false] rfl rfl rfl rfl (by kernel_rfl) (by decide) (by decide) (fun K hK => ?_) (fun K hK => ?_)
    · skip
      refine goes_ Try.func46 (by kernel_rfl) rfl #[.agg #[.slice AO x0.f0.length cO, .int .i64 x0.f1, .int .i64 x0.f2, .slice AI x0.f3.length cI, .bool x0.f4, .int .i64 x0.f5], .agg #[.int .i64 b.f0, .bool b.f1, .slice A2 b.f2.length k2], .int .i64 now] (by rfl) rfl rfl (by simp only [List.map_toArray, List.map_cons, List.map_nil]; rfl) ?_
      with_reducible refine (recv_lit2 HQ.out AO cO AI cI A2 k2 wd (Kd.V_reads' (CD.out.below (Below.refl _ _)).o0).2.2 (Kd.V_reads' (CD.out.below (Below.refl _ _)).i0).2.2 HL.out (AT.out.keep (Below.refl _ _)).cc).mono ?_
      rintro e wx1 ⟨v, rfl, hE, hb⟩
      refine ⟨_, rfl, ?_⟩
      obtain ⟨A5, k5, A6, k6, rfl, hO, hI⟩ := six_read hE
      clear hE
      have hB1 : Below wd.heap.size wd wx1 := hb
      clear hb
      refine hK.out _ _ ⟨(CD.out.below hB1).blk.c0, (CD.out.below hB1).blk.c1, (CD.out.below hB1).blk.c2, (CD.out.below hB1).blk.c3, (CD.out.below hB1).blk.c4, (CD.out.below hB1).blk.c5, (CD.out.below hB1).blk.c16, (CD.out.below hB1).blk.c12, (AT.out.keep hB1).c0, (AT.out.keep hB1).c1, (AT.out.keep hB1).c2⟩ (fun hHeld => ?_)
      clear hK K
      refine norm_ (a' := ?_) ?_ ?_
      rotate_left
      · show Act.put _ (some 29) _ = _
        simp only [Act.put, List.setIfInBounds_toArray, List.set_cons_zero, List.set_cons_succ, i64_w, i32_w]
        rfl
      refine pure_ (i := 20) (N := some 9) (v := ?_) (a' := ?_) #[true, true, true, true, true, true, true, true, true, true, true, true, true, true, true, true, true, true, true, true, true, false, false, false, false, false] rfl rfl (by kernel_rfl) (fun _ _ _ h => h) (Or.inl ⟨by rfl, ?_⟩) ?_ ?_
      rotate_left
      · intro w'
        go_simp
        with_reducible rfl
      rotate_left
      · simp only [Act.put, List.setIfInBounds_toArray, List.set_cons_zero, List.set_cons_succ, i64_w, i32_w]
        rfl
      refine pure_ (i := 21) (N := some 30) (v := ?_) (a' := ?_) #[true, true, true, true, true, true, true, true, true, true, true, true, true, true, true, true, true, true, true, true, true, true, false, false, false, false] rfl rfl (by kernel_rfl) (fun _ _ _ h => h) (Or.inl ⟨by rfl, ?_⟩) ?_ ?_
      rotate_left
      · intro w'
        go_simp
        with_reducible rfl
      rotate_left
      · simp only [Act.put, List.setIfInBounds_toArray, List.set_cons_zero, List.set_cons_succ, i64_w, i32_w]
        rfl
      refine pure_ (i := 22) (N := some 31) (v := ?_) (a' := ?_) #[true, true, true, true, true, true, true, true, true, true, true, true, true, true, true, true, true, true, true, true, true, true, true, false, false, false] rfl rfl (by kernel_rfl) (fun _ _ _ h => h) (Or.inl ⟨by rfl, ?_⟩) ?_ ?_
      rotate_left
      · intro w'
        go_simp
        with_reducible rfl
      rotate_left
      · simp only [Act.put, List.setIfInBounds_toArray, List.set_cons_zero, List.set_cons_succ, i64_w, i32_w]
        rfl
      refine one_ (i := 23) (N := some 7) #[true, true, true, true, true, true, true, true, true, true, true, true, true, true, true, true, true, true, true, true, true, true, true, true, false, false] rfl rfl (by kernel_rfl) (by decide) (fun K hK => ?_)
      refine value_ (w1 := ?_) (v := ?_) (by rfl) rfl ?_ ?_
      rotate_left 2
      · go_simp
        constructor
        all_goals rfl
      have hB2 : Below wd.heap.size wd (wx1.alloc (.cells #[.slice none 0 0, .int .i64 0, .int .i64 0, .slice none 0 0, .bool false, .int .i64 0] 61)) := al hB1 _
      have hZ := EBlk.new wx1 61 (.slice none 0 0) (.slice none 0 0) 0 0 0 false
      have htle : wd.heap.size ≤ wx1.heap.size := hB1.size
      replace hO := Kd.V_mono (Kd.V_alloc (Kd.V_bound hO) (.cells #[.slice none 0 0, .int .i64 0, .int .i64 0, .slice none 0 0, .bool false, .int .i64 0] 61)) (fun k hk => show wd.heap.size ≤ k ∧ k ≠ wx1.heap.size from ⟨hk.1, by have := hk.2; omega⟩)
      replace hI := Kd.V_mono (Kd.V_alloc (Kd.V_bound hI) (.cells #[.slice none 0 0, .int .i64 0, .int .i64 0, .slice none 0 0, .bool false, .int .i64 0] 61)) (fun k hk => show wd.heap.size ≤ k ∧ k ≠ wx1.heap.size from ⟨hk.1, by have := hk.2; omega⟩)
      generalize wx1.alloc (.cells #[.slice none 0 0, .int .i64 0, .int .i64 0, .slice none 0 0, .bool false, .int .i64 0] 61) = wx2 at hB2 hZ hO hI ⊢
      refine hK.out _ _ ⟨(CD.out.below hB2).blk.c0, (CD.out.below hB2).blk.c1, (CD.out.below hB2).blk.c2, (CD.out.below hB2).blk.c3, (CD.out.below hB2).blk.c4, (CD.out.below hB2).blk.c5, (CD.out.below hB2).blk.c16, (CD.out.below hB2).blk.c12, (AT.out.keep hB2).c0, (AT.out.keep hB2).c1, (AT.out.keep hB2).c2⟩ (fun hHeld => ?_)
      clear hK K
      refine norm_ (a' := ?_) ?_ ?_
      rotate_left
      · show Act.put _ (some 7) _ = _
        simp only [Act.put, List.setIfInBounds_toArray, List.set_cons_zero, List.set_cons_succ, i64_w, i32_w]
        rfl
      exact norm_ (by simp only [putAll, Act.put, List.setIfInBounds_toArray, List.set_cons_zero, List.set_cons_succ] <;> rfl) (hCont (wx1.heap.size, A5, k5, A6, k6) _ ⟨hB2, htle, hZ, hO, hI⟩)
    · skip
      refine value_ (w1 := ?_) (v := ?_) (by rfl) rfl ?_ ?_
      rotate_left 2
      · go_simp
        constructor
        all_goals rfl
      have hB1 : Below wd.heap.size wd (wd.alloc (.cells #[.slice none 0 0, .int .i64 0, .int .i64 0, .slice none 0 0, .bool false, .int .i64 0] 61)) := below_one _ _
      have hZ := EBlk.new wd 61 (.slice none 0 0) (.slice none 0 0) 0 0 0 false
      have htle : wd.heap.size ≤ wd.heap.size := Nat.le_refl _
      generalize wd.alloc (.cells #[.slice none 0 0, .int .i64 0, .int .i64 0, .slice none 0 0, .bool false, .int .i64 0] 61) = wx1 at hB1 hZ ⊢
      refine hK.out _ _ ⟨(CD.out.below hB1).blk.c0, (CD.out.below hB1).blk.c1, (CD.out.below hB1).blk.c2, (CD.out.below hB1).blk.c3, (CD.out.below hB1).blk.c4, (CD.out.below hB1).blk.c5, (CD.out.below hB1).blk.c16, (CD.out.below hB1).blk.c12, (AT.out.keep hB1).c0, (AT.out.keep hB1).c1, (AT.out.keep hB1).c2⟩ (fun hHeld => ?_)
      clear hK K
      refine norm_ (a' := ?_) ?_ ?_
      rotate_left
      · show Act.put _ (some 7) _ = _
        simp only [Act.put, List.setIfInBounds_toArray, List.set_cons_zero, List.set_cons_succ, i64_w, i32_w]
        rfl
      refine one_ (i := 19) (N := some 29) #[true, true, true, true, true, true, true, true, true, true, true, true, true, true, true, true, true, true, true, true, false, false, false, true, false, false] rfl rfl (by kernel_rfl) (by decide) (fun K hK => ?_)
      refine goes_ Try.func46 (by kernel_rfl) rfl #[.agg #[.slice AO x0.f0.length cO, .int .i64 x0.f1, .int .i64 x0.f2, .slice AI x0.f3.length cI, .bool x0.f4, .int .i64 x0.f5], .agg #[.int .i64 b.f0, .bool b.f1, .slice A2 b.f2.length k2], .int .i64 now] (by rfl) rfl rfl (by simp only [List.map_toArray, List.map_cons, List.map_nil]; rfl) ?_
      with_reducible refine (recv_lit2 HQ.out AO cO AI cI A2 k2 wx1 (Kd.V_reads' (CD.out.below hB1).o0).2.2 (Kd.V_reads' (CD.out.below hB1).i0).2.2 HL.out (AT.out.keep hB1).cc).mono ?_
      rintro e wx2 ⟨v, rfl, hE, hb⟩
      refine ⟨_, rfl, ?_⟩
      obtain ⟨A5, k5, A6, k6, rfl, hO, hI⟩ := six_read hE
      clear hE
      replace hO := Kd.V_mono hO (ok' := fun k => wd.heap.size ≤ k ∧ k ≠ wd.heap.size) (fun k hk => show wd.heap.size ≤ k ∧ k ≠ wd.heap.size from ⟨by have := hB1.size; omega, by have := heap_lt hZ; omega⟩)
      replace hI := Kd.V_mono hI (ok' := fun k => wd.heap.size ≤ k ∧ k ≠ wd.heap.size) (fun k hk => show wd.heap.size ≤ k ∧ k ≠ wd.heap.size from ⟨by have := hB1.size; omega, by have := heap_lt hZ; omega⟩)
      replace hZ := hZ.below hb
      have hB2 : Below wd.heap.size wd wx2 := bb hB1 hb
      clear hb
      refine hK.out _ _ ⟨(CD.out.below hB2).blk.c0, (CD.out.below hB2).blk.c1, (CD.out.below hB2).blk.c2, (CD.out.below hB2).blk.c3, (CD.out.below hB2).blk.c4, (CD.out.below hB2).blk.c5, (CD.out.below hB2).blk.c16, (CD.out.below hB2).blk.c12, (AT.out.keep hB2).c0, (AT.out.keep hB2).c1, (AT.out.keep hB2).c2⟩ (fun hHeld => ?_)
      clear hK K
      refine norm_ (a' := ?_) ?_ ?_
      rotate_left
      · show Act.put _ (some 29) _ = _
        simp only [Act.put, List.setIfInBounds_toArray, List.set_cons_zero, List.set_cons_succ, i64_w, i32_w]
        rfl
      refine pure_ (i := 20) (N := some 9) (v := ?_) (a' := ?_) #[true, true, true, true, true, true, true, true, true, true, true, true, true, true, true, true, true, true, true, true, true, false, false, true, false, false] rfl rfl (by kernel_rfl) (fun _ _ _ h => h) (Or.inl ⟨by rfl, ?_⟩) ?_ ?_
      rotate_left
      · intro w'
        go_simp
        with_reducible rfl
      rotate_left
      · simp only [Act.put, List.setIfInBounds_toArray, List.set_cons_zero, List.set_cons_succ, i64_w, i32_w]
        rfl
      refine pure_ (i := 21) (N := some 30) (v := ?_) (a' := ?_) #[true, true, true, true, true, true, true, true, true, true, true, true, true, true, true, true, true, true, true, true, true, true, false, true, false, false] rfl rfl (by kernel_rfl) (fun _ _ _ h => h) (Or.inl ⟨by rfl, ?_⟩) ?_ ?_
      rotate_left
      · intro w'
        go_simp
        with_reducible rfl
      rotate_left
      · simp only [Act.put, List.setIfInBounds_toArray, List.set_cons_zero, List.set_cons_succ, i64_w, i32_w]
        rfl
      refine pure_ (i := 22) (N := some 31) (v := ?_) (a' := ?_) #[true, true, true, true, true, true, true, true, true, true, true, true, true, true, true, true, true, true, true, true, true, true, true, true, false, false] rfl rfl (by kernel_rfl) (fun _ _ _ h => h) (Or.inl ⟨by rfl, ?_⟩) ?_ ?_
      rotate_left
      · intro w'
        go_simp
        with_reducible rfl
      rotate_left
      · simp only [Act.put, List.setIfInBounds_toArray, List.set_cons_zero, List.set_cons_succ, i64_w, i32_w]
        rfl
      exact norm_ (by simp only [putAll, Act.put, List.setIfInBounds_toArray, List.set_cons_zero, List.set_cons_succ] <;> rfl) (hCont (wd.heap.size, A5, k5, A6, k6) _ ⟨hB2, htle, hZ, hO, hI⟩)
  rintro ⟨t, A5, k5, A6, k6⟩ w3 ⟨hB, htle, hZ, hO, hI⟩
  have hHeld : w3.cell? ⟨g, 0, none⟩ = some (.slice AO x0.f0.length cO) ∧ w3.cell? ⟨g, 1, none⟩ = some (.int .i64 x0.f1) ∧ w3.cell? ⟨g, 2, none⟩ = some (.int .i64 x0.f2) ∧ w3.cell? ⟨g, 3, none⟩ = some (.slice AI x0.f3.length cI) ∧ w3.cell? ⟨g, 4, none⟩ = some (.bool x0.f4) ∧ w3.cell? ⟨g, 5, none⟩ = some (.int .i64 x0.f5) ∧ w3.cell? ⟨g, 16, none⟩ = some (.int .i64 now) ∧ w3.cell? ⟨g, 12, none⟩ = some (.slice (some ad) l0.length cW) ∧ w3.cell? (ad.add (i * 3)) = some (.int .i64 b.f0) ∧ w3.cell? ⟨(ad.add (i * 3)).block, (ad.add (i * 3)).off + 1, none⟩ = some (.bool b.f1) ∧ w3.cell? ⟨(ad.add (i * 3)).block, (ad.add (i * 3)).off + 2, none⟩ = some (.slice A2 b.f2.length k2) := ⟨(CD.out.below hB).blk.c0, (CD.out.below hB).blk.c1, (CD.out.below hB).blk.c2, (CD.out.below hB).blk.c3, (CD.out.below hB).blk.c4, (CD.out.below hB).blk.c5, (CD.out.below hB).blk.c16, (CD.out.below hB).blk.c12, (AT.out.keep hB).c0, (AT.out.keep hB).c1, (AT.out.keep hB).c2⟩
  refine norm_ (a' := ?_) ?_ ?_
  rotate_left
  · simp only [putAll, Act.put, List.setIfInBounds_toArray, List.set_cons_zero, List.set_cons_succ]
    rfl
  refine last_ (i := 24) (N := none) #[true, true, true, true, true, true, true, true, true, true, true, true, true, true, true, true, true, true, true, true, true, true, true, true, true, false] rfl rfl (by kernel_rfl) (by decide) (fun K hK => ?_)
  have z0 := hZ.c0; have z1 := hZ.c1; have z2 := hZ.c2; have z3 := hZ.c3; have z4 := hZ.c4; have z5 := hZ.c5; have y := blk_frozen hZ
  refine skip_ (w1 := ?_) (by rfl) rfl ?_ ?_
  rotate_left
  · go_simp
    rfl
  obtain ⟨w4, hw9, Z9, F9⟩ := six hZ (.slice A5 x.f0.length k5) x.f1 x.f2 (.slice A6 x.f3.length k6) x.f4 x.f5
  rw [← hw9]
  clear hw9 z0 z1 z2 z3 z4 z5 y
  refine hK.out _ _ ?_
  clear hK K
  refine pure_ (i := 25) (N := some 8) (v := ?_) (a' := ?_) #[true, true, true, true, true, true, true, true, true, true, true, true, true, true, true, true, true, true, true, true, true, true, true, true, true, true] rfl rfl (by kernel_rfl) (fun _ _ _ h => h) (Or.inl ⟨by rfl, ?_⟩) ?_ ?_
  rotate_left
  · intro w'
    go_simp
    with_reducible rfl
  rotate_left
  · simp only [Act.put, List.setIfInBounds_toArray, List.set_cons_zero, List.set_cons_succ, i64_w, i32_w]
    rfl
  refine done_ (by kernel_rfl) ?_

  have hB4 : Below wd.heap.size wd w4 := Fr.below F9 hB (Nat.le_refl _) (fun k hk => by omega)
  have C4 := Lib.hid (CD.out.below hB4)
  have O4 := Lib.hid (Kd.V_mono (Kd.V_step hO (fun k hk hlt => F9.same k hlt hk.2)) (fun k hk => CD.out.fresh hk.1))
  have I4 := Lib.hid (Kd.V_mono (Kd.V_step hI (fun k hk hlt => F9.same k hlt hk.2)) (fun k hk => CD.out.fresh hk.1))
  have Z4 := Lib.hid Z9
  have B4 := Lib.hid (bb HWS.out hB4)
  clear hO hI F9 hB hB4 hZ Z9 htle hHeld HQ
  by_cases hr : r = 0
  · subst hr
    go_wp2_with fail
    have B5 := Lib.hid (show Below W.heap.size W w4.drew from below_drew B4.out)
    replace C4 := Lib.hid (C4.out.below (below_drew (Below.refl _ _))); replace O4 := Lib.hid (Kd.V_drew O4.out); replace I4 := Lib.hid (Kd.V_drew I4.out); replace Z4 := Lib.hid (Z4.out.below (below_drew (Below.refl _ _)))
    refine start_ (n := 7) (S := fun w' => w'.cell? ⟨t, 0, none⟩ = some (.slice A5 x.f0.length k5) ∧ w'.cell? ⟨t, 1, none⟩ = some (.int .i64 x.f1) ∧ w'.cell? ⟨t, 2, none⟩ = some (.int .i64 x.f2) ∧ w'.cell? ⟨t, 3, none⟩ = some (.slice A6 x.f3.length k6) ∧ w'.cell? ⟨t, 4, none⟩ = some (.bool x.f4) ∧ w'.cell? ⟨t, 5, none⟩ = some (.int .i64 x.f5)) (ds := [6]) #[false, false, false, false, false, false, false] (by kernel_rfl) rfl rfl ⟨Z4.out.c0, Z4.out.c1, Z4.out.c2, Z4.out.c3, Z4.out.c4, Z4.out.c5⟩ (fun hHeld => ?_)
    generalize w4.drew = w5 at B5 C4 O4 I4 Z4 hHeld ⊢
    refine pure_ (i := 0) (N := some 34) (v := ?_) (a' := ?_) #[true, false, false, false, false, false, false] rfl rfl (by kernel_rfl) (fun _ _ _ h => h) (Or.inl ⟨by rfl, ?_⟩) ?_ ?_
    rotate_left
    · intro w'
      go_simp
      with_reducible rfl
    rotate_left
    · simp only [Act.put, List.setIfInBounds_toArray, List.set_cons_zero, List.set_cons_succ, i64_w, i32_w]
      rfl
    refine pure_ (i := 1) (N := some 35) (v := ?_) (a' := ?_) #[true, true, false, false, false, false, false] rfl rfl (by kernel_rfl) (fun _ _ _ h => h) (Or.inl ⟨by rfl, ?_⟩) ?_ ?_
    rotate_left
    · intro w'
      go_simp
      with_reducible rfl
    rotate_left
    · simp only [Act.put, List.setIfInBounds_toArray, List.set_cons_zero, List.set_cons_succ, i64_w, i32_w]
      rfl
    refine pure_ (i := 3) (N := some 37) (v := ?_) (a' := ?_) #[true, true, false, true, false, false, false] rfl rfl (by kernel_rfl) (fun _ _ _ h => h) (Or.inl ⟨by rfl, ?_⟩) ?_ ?_
    rotate_left
    · intro w'
      go_simp
      with_reducible rfl
    rotate_left
    · simp only [Act.put, List.setIfInBounds_toArray, List.set_cons_zero, List.set_cons_succ, i64_w, i32_w]
      rfl
    refine pure_ (i := 4) (N := some 38) (v := ?_) (a' := ?_) #[true, true, false, true, true, false, false] rfl rfl (by kernel_rfl) (fun _ _ _ h => h) (Or.inl ⟨by rfl, ?_⟩) ?_ ?_
    rotate_left
    · intro w'
      go_simp
      with_reducible rfl
    rotate_left
    · simp only [Act.put, List.setIfInBounds_toArray, List.set_cons_zero, List.set_cons_succ, i64_w, i32_w]
      rfl
    refine take_ (i := 2) (N := some 36) (v := ?_) (a' := ?_) #[true, true, true, true, true, false, false] rfl rfl (by kernel_rfl) (fun _ _ _ h => h) (Or.inl ⟨by rfl, ?_⟩) hHeld ?_ ?_
    rotate_left
    · rintro w' ⟨s0, s1, s2, s3, s4, s5⟩
      go_simp
      with_reducible rfl
    rotate_left
    · simp only [Act.put, List.setIfInBounds_toArray, List.set_cons_zero, List.set_cons_succ, i64_w, i32_w]
      rfl
    refine pure_ (i := 5) (N := some 39) (v := ?_) (a' := ?_) #[true, true, true, true, true, true, false] rfl rfl (by kernel_rfl) (fun _ _ _ h => h) (Or.inl ⟨by rfl, ?_⟩) ?_ ?_
    rotate_left
    · intro w'
      go_simp
      with_reducible rfl
    rotate_left
    · simp only [Act.put, List.setIfInBounds_toArray, List.set_cons_zero, List.set_cons_succ, i64_w, i32_w]
      rfl
    refine last_ (i := 6) (N := none) #[true, true, true, true, true, true, true] rfl rfl (by kernel_rfl) (by decide) (fun K hK => ?_)
    have z0 := C4.out.blk.c0; have z1 := C4.out.blk.c1; have z2 := C4.out.blk.c2; have z3 := C4.out.blk.c3; have z4 := C4.out.blk.c4; have z5 := C4.out.blk.c5; have y := blk_frozen C4.out.blk
    refine skip_ (w1 := ?_) (by rfl) rfl ?_ ?_
    rotate_left
    · go_simp
      rfl
    obtain ⟨w6, hw9, hB9, F9⟩ := C4.out.blk.end0 (.slice A5 x.f0.length k5) (.slice A6 x.f3.length k6) x
    rw [← hw9]
    clear hw9 z0 z1 z2 z3 z4 z5 y
    refine hK.out _ _ ?_
    clear hK K
    refine done_ (by kernel_rfl) ?_

    have C6 := Lib.hid (C4.out.set0 F9 hB9 O4.out I4.out)
    have FF := Lib.hid (Fr.trans (Fr.of_below B5.out (fun k => k = g)) F9 (fun _ _ h => h))
    clear C4 O4 I4 Z4 F9 hB9 hHeld
    go_wp2_with fail
    go_ret
    exact ⟨rfl, ⟨.slice A5 x.f0.length k5, .slice A6 x.f3.length k6, C6.out⟩, FF.out⟩
  · have hz : (r != 0) = true := by simpa using hr
    have HRN := Lib.hid hr
    clear hr
    go_wp2_with fail
    go_ret
    exact Or.inl ⟨HRN.out, rfl, B4.out⟩
set_option maxHeartbeats 16000000 in
set_option maxRecDepth 100000 in
theorem delF1 (w W : World) (g : Nat) (vo0 vi0 : Value) (x0 : S61) (vo1 vi1 : Value) (x1 : S61) (w0 w1 : Value) (l0 l1 : List S83) (p0 p1 : Value) (r0 r1 : List S39) (now : Int) (h : Chan w W g vo0 vi0 x0 vo1 vi1 x1 w0 w1 l0 l1 p0 p1 r0 r1 now) (hl : x1.f3.length ≤ 1000000) (i : Nat) (hi : i < l1.length) (hw : l1.length ≤ 1000000) (b : S83) (hbi : l1[i]'hi = b) (x : S61) (r : Int) (heq : recvF x1 b now = (x, r)) :
    Calls Try.prog 37 #[.pointer (some ⟨g, 0, none⟩), .int .i64 1, .int .i64 i] W fun e W' => (r ≠ 0 ∧ e = .returned (.bool false) ∧ Below W.heap.size W W') ∨ (r = 0 ∧ e = .returned (.bool true) ∧ (∃ vo vi, Chan w W' g vo0 vi0 x0 vo vi x w0 w1 l0 l1 p0 p1 r0 r1 now) ∧ Fr (fun k => k = g) W W') := by
  obtain ⟨AO, cO, hvo⟩ := Kd.V_slice h.o1
  obtain ⟨AI, cI, hvi⟩ := Kd.V_slice h.i1
  obtain ⟨AW, cW, hvw⟩ := Kd.R_slice h.ww1
  subst hvo hvi hvw
  obtain ⟨ad, A2, k2, hA, hat⟩ := B83_cell (Kd.R_reads' h.ww1).2.2 i hi hi
  subst hA
  replace hat : AtB83 W (ad.add (i * 3)) b A2 k2 := by rw [← hbi]; exact hat
  have C := Lib.hid h; have HL := Lib.hid hl; have HQ := Lib.hid heq; have HI := Lib.hid hi; have AT0 := Lib.hid hat
  have i0 : (0 : Int) ≤ (i : Int) := by omega
  have i1 : (i : Int) < (l1.length : Int) := by omega
  clear h hl heq hbi hat hi hw
  go_enter Try.func37, Try.ntmps37
  go_wp2_with fail
  have HWS := Lib.hid (show Below W.heap.size W W.drew from below_drew (Below.refl _ _))
  have CD := Lib.hid (C.out.below (below_drew (Below.refl _ _)))
  have AT := Lib.hid (AT0.out.keep (below_drew (Below.refl _ _)))
  clear AT0
  refine start_ (n := 26) (S := fun w' => w'.cell? ⟨g, 6, none⟩ = some (.slice AO x1.f0.length cO) ∧ w'.cell? ⟨g, 7, none⟩ = some (.int .i64 x1.f1) ∧ w'.cell? ⟨g, 8, none⟩ = some (.int .i64 x1.f2) ∧ w'.cell? ⟨g, 9, none⟩ = some (.slice AI x1.f3.length cI) ∧ w'.cell? ⟨g, 10, none⟩ = some (.bool x1.f4) ∧ w'.cell? ⟨g, 11, none⟩ = some (.int .i64 x1.f5) ∧ w'.cell? ⟨g, 16, none⟩ = some (.int .i64 now) ∧ w'.cell? ⟨g, 13, none⟩ = some (.slice (some ad) l1.length cW) ∧ w'.cell? (ad.add (i * 3)) = some (.int .i64 b.f0) ∧ w'.cell? ⟨(ad.add (i * 3)).block, (ad.add (i * 3)).off + 1, none⟩ = some (.bool b.f1) ∧ w'.cell? ⟨(ad.add (i * 3)).block, (ad.add (i * 3)).off + 2, none⟩ = some (.slice A2 b.f2.length k2)) (ds := [24]) #[false, false, false, false, false, false, false, false, false, false, false, false, false, false, false, false, false, false, false, false, false, false, false, false, false, false] (by kernel_rfl) rfl rfl ⟨CD.out.blk.c6, CD.out.blk.c7, CD.out.blk.c8, CD.out.blk.c9, CD.out.blk.c10, CD.out.blk.c11, CD.out.blk.c16, CD.out.blk.c13, AT.out.c0, AT.out.c1, AT.out.c2⟩ (fun hHeld => ?_)
  generalize W.drew = wd at CD AT HWS hHeld ⊢
  refine pure_ (i := 0) (N := some 10) (v := ?_) (a' := ?_) #[true, false, false, false, false, false, false, false, false, false, false, false, false, false, false, false, false, false, false, false, false, false, false, false, false, false] rfl rfl (by kernel_rfl) (fun _ _ _ h => h) (Or.inl ⟨by rfl, ?_⟩) ?_ ?_
  rotate_left
  · intro w'
    go_simp
    with_reducible rfl
  rotate_left
  · simp only [Act.put, List.setIfInBounds_toArray, List.set_cons_zero, List.set_cons_succ, i64_w, i32_w]
    rfl
  refine pure_ (i := 1) (N := some 11) (v := ?_) (a' := ?_) #[true, true, false, false, false, false, false, false, false, false, false, false, false, false, false, false, false, false, false, false, false, false, false, false, false, false] rfl rfl (by kernel_rfl) (fun _ _ _ h => h) (Or.inl ⟨by rfl, ?_⟩) ?_ ?_
  rotate_left
  · intro w'
    go_simp
    with_reducible rfl
  rotate_left
  · simp only [Act.put, List.setIfInBounds_toArray, List.set_cons_zero, List.set_cons_succ, i64_w, i32_w]
    rfl
  refine pure_ (i := 2) (N := some 12) (v := ?_) (a' := ?_) #[true, true, true, false, false, false, false, false, false, false, false, false, false, false, false, false, false, false, false, false, false, false, false, false, false, false] rfl rfl (by kernel_rfl) (fun _ _ _ h => h) (Or.inl ⟨by rfl, ?_⟩) ?_ ?_
  rotate_left
  · intro w'
    go_simp
    with_reducible rfl
  rotate_left
  · simp only [Act.put, List.setIfInBounds_toArray, List.set_cons_zero, List.set_cons_succ, i64_w, i32_w]
    rfl
  refine pure_ (i := 3) (N := some 13) (v := ?_) (a' := ?_) #[true, true, true, true, false, false, false, false, false, false, false, false, false, false, false, false, false, false, false, false, false, false, false, false, false, false] rfl rfl (by kernel_rfl) (fun _ _ _ h => h) (Or.inl ⟨by rfl, ?_⟩) ?_ ?_
  rotate_left
  · intro w'
    go_simp
    with_reducible rfl
  rotate_left
  · simp only [Act.put, List.setIfInBounds_toArray, List.set_cons_zero, List.set_cons_succ, i64_w, i32_w]
    rfl
  refine pure_ (i := 4) (N := some 14) (v := ?_) (a' := ?_) #[true, true, true, true, true, false, false, false, false, false, false, false, false, false, false, false, false, false, false, false, false, false, false, false, false, false] rfl rfl (by kernel_rfl) (fun _ _ _ h => h) (Or.inl ⟨by rfl, ?_⟩) ?_ ?_
  rotate_left
  · intro w'
    go_simp
    with_reducible rfl
  rotate_left
  · simp only [Act.put, List.setIfInBounds_toArray, List.set_cons_zero, List.set_cons_succ, i64_w, i32_w]
    rfl
  refine pure_ (i := 6) (N := some 16) (v := ?_) (a' := ?_) #[true, true, true, true, true, false, true, false, false, false, false, false, false, false, false, false, false, false, false, false, false, false, false, false, false, false] rfl rfl (by kernel_rfl) (fun _ _ _ h => h) (Or.inl ⟨by rfl, ?_⟩) ?_ ?_
  rotate_left
  · intro w'
    go_simp
    with_reducible rfl
  rotate_left
  · simp only [Act.put, List.setIfInBounds_toArray, List.set_cons_zero, List.set_cons_succ, i64_w, i32_w]
    rfl
  refine pure_ (i := 7) (N := some 17) (v := ?_) (a' := ?_) #[true, true, true, true, true, false, true, true, false, false, false, false, false, false, false, false, false, false, false, false, false, false, false, false, false, false] rfl rfl (by kernel_rfl) (fun _ _ _ h => h) (Or.inl ⟨by rfl, ?_⟩) ?_ ?_
  rotate_left
  · intro w'
    go_simp
    with_reducible rfl
  rotate_left
  · simp only [Act.put, List.setIfInBounds_toArray, List.set_cons_zero, List.set_cons_succ, i64_w, i32_w]
    rfl
  refine pure_ (i := 8) (N := some 18) (v := ?_) (a' := ?_) #[true, true, true, true, true, false, true, true, true, false, false, false, false, false, false, false, false, false, false, false, false, false, false, false, false, false] rfl rfl (by kernel_rfl) (fun _ _ _ h => h) (Or.inl ⟨by rfl, ?_⟩) ?_ ?_
  rotate_left
  · intro w'
    go_simp
    with_reducible rfl
  rotate_left
  · simp only [Act.put, List.setIfInBounds_toArray, List.set_cons_zero, List.set_cons_succ, i64_w, i32_w]
    rfl
  refine pure_ (i := 9) (N := some 19) (v := ?_) (a' := ?_) #[true, true, true, true, true, false, true, true, true, true, false, false, false, false, false, false, false, false, false, false, false, false, false, false, false, false] rfl rfl (by kernel_rfl) (fun _ _ _ h => h) (Or.inl ⟨by rfl, ?_⟩) ?_ ?_
  rotate_left
  · intro w'
    go_simp
    with_reducible rfl
  rotate_left
  · simp only [Act.put, List.setIfInBounds_toArray, List.set_cons_zero, List.set_cons_succ, i64_w, i32_w]
    rfl
  refine pure_ (i := 10) (N := some 20) (v := ?_) (a' := ?_) #[true, true, true, true, true, false, true, true, true, true, true, false, false, false, false, false, false, false, false, false, false, false, false, false, false, false] rfl rfl (by kernel_rfl) (fun _ _ _ h => h) (Or.inl ⟨by rfl, ?_⟩) ?_ ?_
  rotate_left
  · intro w'
    go_simp
    with_reducible rfl
  rotate_left
  · simp only [Act.put, List.setIfInBounds_toArray, List.set_cons_zero, List.set_cons_succ, i64_w, i32_w]
    rfl
  refine pure_ (i := 12) (N := some 22) (v := ?_) (a' := ?_) #[true, true, true, true, true, false, true, true, true, true, true, false, true, false, false, false, false, false, false, false, false, false, false, false, false, false] rfl rfl (by kernel_rfl) (fun _ _ _ h => h) (Or.inl ⟨by rfl, ?_⟩) ?_ ?_
  rotate_left
  · intro w'
    go_simp
    with_reducible rfl
  rotate_left
  · simp only [Act.put, List.setIfInBounds_toArray, List.set_cons_zero, List.set_cons_succ, i64_w, i32_w]
    rfl
  refine pure_ (i := 15) (N := some 25) (v := ?_) (a' := ?_) #[true, true, true, true, true, false, true, true, true, true, true, false, true, false, false, true, false, false, false, false, false, false, false, false, false, false] rfl rfl (by kernel_rfl) (fun _ _ _ h => h) (Or.inl ⟨by rfl, ?_⟩) ?_ ?_
  rotate_left
  · intro w'
    go_simp
    with_reducible rfl
  rotate_left
  · simp only [Act.put, List.setIfInBounds_toArray, List.set_cons_zero, List.set_cons_succ, i64_w, i32_w]
    rfl
  refine pure_ (i := 16) (N := some 26) (v := ?_) (a' := ?_) #[true, true, true, true, true, false, true, true, true, true, true, false, true, false, false, true, true, false, false, false, false, false, false, false, false, false] rfl rfl (by kernel_rfl) (fun _ _ _ h => h) (Or.inl ⟨by rfl, ?_⟩) ?_ ?_
  rotate_left
  · intro w'
    go_simp
    with_reducible rfl
  rotate_left
  · simp only [Act.put, List.setIfInBounds_toArray, List.set_cons_zero, List.set_cons_succ, i64_w, i32_w]
    rfl
  refine pure_ (i := 17) (N := some 27) (v := ?_) (a' := ?_) #[true, true, true, true, true, false, true, true, true, true, true, false, true, false, false, true, true, true, false, false, false, false, false, false, false, false] rfl rfl (by kernel_rfl) (fun _ _ _ h => h) (Or.inl ⟨by rfl, ?_⟩) ?_ ?_
  rotate_left
  · intro w'
    go_simp
    with_reducible rfl
  rotate_left
  · simp only [Act.put, List.setIfInBounds_toArray, List.set_cons_zero, List.set_cons_succ, i64_w, i32_w]
    rfl
  refine take_ (i := 5) (N := some 15) (v := ?_) (a' := ?_) #[true, true, true, true, true, true, true, true, true, true, true, false, true, false, false, true, true, true, false, false, false, false, false, false, false, false] rfl rfl (by kernel_rfl) (fun _ _ _ h => h) (Or.inl ⟨by rfl, ?_⟩) hHeld ?_ ?_
  rotate_left
  · rintro w' ⟨s0, s1, s2, s3, s4, s5, s6, s7, s8, s9, s10⟩
    go_simp
    with_reducible rfl
  rotate_left
  · simp only [Act.put, List.setIfInBounds_toArray, List.set_cons_zero, List.set_cons_succ, i64_w, i32_w]
    rfl
  refine take_ (i := 11) (N := some 21) (v := ?_) (a' := ?_) #[true, true, true, true, true, true, true, true, true, true, true, true, true, false, false, true, true, true, false, false, false, false, false, false, false, false] rfl rfl (by kernel_rfl) (fun _ _ _ h => h) (Or.inl ⟨by rfl, ?_⟩) hHeld ?_ ?_
  rotate_left
  · rintro w' ⟨s0, s1, s2, s3, s4, s5, s6, s7, s8, s9, s10⟩
    go_simp
    with_reducible rfl
  rotate_left
  · simp only [Act.put, List.setIfInBounds_toArray, List.set_cons_zero, List.set_cons_succ, i64_w, i32_w]
    rfl
  refine pure_ (i := 13) (N := some 23) (v := ?_) (a' := ?_) #[true, true, true, true, true, true, true, true, true, true, true, true, true, true, false, true, true, true, false, false, false, false, false, false, false, false] rfl rfl (by kernel_rfl) (fun _ _ _ h => h) (Or.inl ⟨by rfl, ?_⟩) ?_ ?_
  rotate_left
  · intro w'
    go_simp
    with_reducible rfl
  rotate_left
  · simp only [Act.put, List.setIfInBounds_toArray, List.set_cons_zero, List.set_cons_succ, i64_w, i32_w]
    rfl
  refine take_ (i := 14) (N := some 24) (v := ?_) (a' := ?_) #[true, true, true, true, true, true, true, true, true, true, true, true, true, true, true, true, true, true, false, false, false, false, false, false, false, false] rfl rfl (by kernel_rfl) (fun _ _ _ h => h) (Or.inl ⟨by rfl, ?_⟩) hHeld ?_ ?_
  rotate_left
  · rintro w' ⟨s0, s1, s2, s3, s4, s5, s6, s7, s8, s9, s10⟩
    go_simp
    with_reducible rfl
  rotate_left
  · simp only [Act.put, List.setIfInBounds_toArray, List.set_cons_zero, List.set_cons_succ, i64_w, i32_w]
    rfl
  refine take_ (i := 18) (N := some 28) (v := ?_) (a' := ?_) #[true, true, true, true, true, true, true, true, true, true, true, true, true, true, true, true, true, true, true, false, false, false, false, false, false, false] rfl rfl (by kernel_rfl) (fun _ _ _ h => h) (Or.inl ⟨by rfl, ?_⟩) hHeld ?_ ?_
  rotate_left
  · rintro w' ⟨s0, s1, s2, s3, s4, s5, s6, s7, s8, s9, s10⟩
    go_simp
    with_reducible rfl
  rotate_left
  · simp only [Act.put, List.setIfInBounds_toArray, List.set_cons_zero, List.set_cons_succ, i64_w, i32_w]
    rfl
  refine join_ (σ := Nat × Option Addr × Nat × Option Addr × Nat) 2 #[true, true, true, true, true, true, true, true, true, true, true, true, true, true, true, true, true, true, true, true, true, true, true, true, false, false] (fun s => [(29, .tuple #[.agg #[.slice s.2.1 x.f0.length s.2.2.1, .int .i64 x.f1, .int .i64 x.f2, .slice s.2.2.2.1 x.f3.length s.2.2.2.2, .bool x.f4, .int .i64 x.f5], .int .i64 r]), (7, .pointer (some ⟨s.1, 0, none⟩)), (9, .tuple #[.agg #[.slice s.2.1 x.f0.length s.2.2.1, .int .i64 x.f1, .int .i64 x.f2, .slice s.2.2.2.1 x.f3.length s.2.2.2.2, .bool x.f4, .int .i64 x.f5], .int .i64 r]), (30, .agg #[.slice s.2.1 x.f0.length s.2.2.1, .int .i64 x.f1, .int .i64 x.f2, .slice s.2.2.2.1 x.f3.length s.2.2.2.2, .bool x.f4, .int .i64 x.f5]), (31, .int .i64 r)]) (fun s w' => Below wd.heap.size wd w' ∧ wd.heap.size ≤ s.1 ∧ EBlk w' s.1 61 (.slice none 0 0) 0 0 (.slice none 0 0) false 0 ∧ Kd.V kL 28 w' 0 (fun k => wd.heap.size ≤ k ∧ k ≠ s.1) (.slice s.2.1 x.f0.length s.2.2.1) x.f0 ∧ Kd.V k39 39 w' 0 (fun k => wd.heap.size ≤ k ∧ k ≠ s.1) (.slice s.2.2.2.1 x.f3.length s.2.2.2.2) x.f3) ?_ ?_
  rotate_left
  · intro hCont
    refine two_ (i := 19) (j := 23) (Ni := some 29) (Nj := some 7) #[true, true, true, true, true, true, true, true, true, true, true, true, true, true, true, true, true, true, true, true, false, false, false, false, false, false] #[true, true, true, true, true, true, true, true, true, true, true, true, true, true, true, true, true, true, true, false, false, false, false, true, false, false] rfl rfl rfl rfl (by kernel_rfl) (by decide) (by decide) (fun K hK => ?_) (fun K hK => ?_)
    · skip
      refine goes_ Try.func46 (by kernel_rfl) rfl #[.agg #[.slice AO x1.f0.length cO, .int .i64 x1.f1, .int .i64 x1.f2, .slice AI x1.f3.length cI, .bool x1.f4, .int .i64 x1.f5], .agg #[.int .i64 b.f0, .bool b.f1, .slice A2 b.f2.length k2], .int .i64 now] (by rfl) rfl rfl (by simp only [List.map_toArray, List.map_cons, List.map_nil]; rfl) ?_
      with_reducible refine (recv_lit2 HQ.out AO cO AI cI A2 k2 wd (Kd.V_reads' (CD.out.below (Below.refl _ _)).o1).2.2 (Kd.V_reads' (CD.out.below (Below.refl _ _)).i1).2.2 HL.out (AT.out.keep (Below.refl _ _)).cc).mono ?_
      rintro e wx1 ⟨v, rfl, hE, hb⟩
      refine ⟨_, rfl, ?_⟩
      obtain ⟨A5, k5, A6, k6, rfl, hO, hI⟩ := six_read hE
      clear hE
      have hB1 : Below wd.heap.size wd wx1 := hb
      clear hb
      refine hK.out _ _ ⟨(CD.out.below hB1).blk.c6, (CD.out.below hB1).blk.c7, (CD.out.below hB1).blk.c8, (CD.out.below hB1).blk.c9, (CD.out.below hB1).blk.c10, (CD.out.below hB1).blk.c11, (CD.out.below hB1).blk.c16, (CD.out.below hB1).blk.c13, (AT.out.keep hB1).c0, (AT.out.keep hB1).c1, (AT.out.keep hB1).c2⟩ (fun hHeld => ?_)
      clear hK K
      refine norm_ (a' := ?_) ?_ ?_
      rotate_left
      · show Act.put _ (some 29) _ = _
        simp only [Act.put, List.setIfInBounds_toArray, List.set_cons_zero, List.set_cons_succ, i64_w, i32_w]
        rfl
      refine pure_ (i := 20) (N := some 9) (v := ?_) (a' := ?_) #[true, true, true, true, true, true, true, true, true, true, true, true, true, true, true, true, true, true, true, true, true, false, false, false, false, false] rfl rfl (by kernel_rfl) (fun _ _ _ h => h) (Or.inl ⟨by rfl, ?_⟩) ?_ ?_
      rotate_left
      · intro w'
        go_simp
        with_reducible rfl
      rotate_left
      · simp only [Act.put, List.setIfInBounds_toArray, List.set_cons_zero, List.set_cons_succ, i64_w, i32_w]
        rfl
      refine pure_ (i := 21) (N := some 30) (v := ?_) (a' := ?_) #[true, true, true, true, true, true, true, true, true, true, true, true, true, true, true, true, true, true, true, true, true, true, false, false, false, false] rfl rfl (by kernel_rfl) (fun _ _ _ h => h) (Or.inl ⟨by rfl, ?_⟩) ?_ ?_
      rotate_left
      · intro w'
        go_simp
        with_reducible rfl
      rotate_left
      · simp only [Act.put, List.setIfInBounds_toArray, List.set_cons_zero, List.set_cons_succ, i64_w, i32_w]
        rfl
      refine pure_ (i := 22) (N := some 31) (v := ?_) (a' := ?_) #[true, true, true, true, true, true, true, true, true, true, true, true, true, true, true, true, true, true, true, true, true, true, true, false, false, false] rfl rfl (by kernel_rfl) (fun _ _ _ h => h) (Or.inl ⟨by rfl, ?_⟩) ?_ ?_
      rotate_left
      · intro w'
        go_simp
        with_reducible rfl
      rotate_left
      · simp only [Act.put, List.setIfInBounds_toArray, List.set_cons_zero, List.set_cons_succ, i64_w, i32_w]
        rfl
      refine one_ (i := 23) (N := some 7) #[true, true, true, true, true, true, true, true, true, true, true, true, true, true, true, true, true, true, true, true, true, true, true, true, false, false] rfl rfl (by kernel_rfl) (by decide) (fun K hK => ?_)
      refine value_ (w1 := ?_) (v := ?_) (by rfl) rfl ?_ ?_
      rotate_left 2
      · go_simp
        constructor
        all_goals rfl
      have hB2 : Below wd.heap.size wd (wx1.alloc (.cells #[.slice none 0 0, .int .i64 0, .int .i64 0, .slice none 0 0, .bool false, .int .i64 0] 61)) := al hB1 _
      have hZ := EBlk.new wx1 61 (.slice none 0 0) (.slice none 0 0) 0 0 0 false
      have htle : wd.heap.size ≤ wx1.heap.size := hB1.size
      replace hO := Kd.V_mono (Kd.V_alloc (Kd.V_bound hO) (.cells #[.slice none 0 0, .int .i64 0, .int .i64 0, .slice none 0 0, .bool false, .int .i64 0] 61)) (fun k hk => show wd.heap.size ≤ k ∧ k ≠ wx1.heap.size from ⟨hk.1, by have := hk.2; omega⟩)
      replace hI := Kd.V_mono (Kd.V_alloc (Kd.V_bound hI) (.cells #[.slice none 0 0, .int .i64 0, .int .i64 0, .slice none 0 0, .bool false, .int .i64 0] 61)) (fun k hk => show wd.heap.size ≤ k ∧ k ≠ wx1.heap.size from ⟨hk.1, by have := hk.2; omega⟩)
      generalize wx1.alloc (.cells #[.slice none 0 0, .int .i64 0, .int .i64 0, .slice none 0 0, .bool false, .int .i64 0] 61) = wx2 at hB2 hZ hO hI ⊢
      refine hK.out _ _ ⟨(CD.out.below hB2).blk.c6, (CD.out.below hB2).blk.c7, (CD.out.below hB2).blk.c8, (CD.out.below hB2).blk.c9, (CD.out.below hB2).blk.c10, (CD.out.below hB2).blk.c11, (CD.out.below hB2).blk.c16, (CD.out.below hB2).blk.c13, (AT.out.keep hB2).c0, (AT.out.keep hB2).c1, (AT.out.keep hB2).c2⟩ (fun hHeld => ?_)
      clear hK K
      refine norm_ (a' := ?_) ?_ ?_
      rotate_left
      · show Act.put _ (some 7) _ = _
        simp only [Act.put, List.setIfInBounds_toArray, List.set_cons_zero, List.set_cons_succ, i64_w, i32_w]
        rfl
      exact norm_ (by simp only [putAll, Act.put, List.setIfInBounds_toArray, List.set_cons_zero, List.set_cons_succ] <;> rfl) (hCont (wx1.heap.size, A5, k5, A6, k6) _ ⟨hB2, htle, hZ, hO, hI⟩)
    · skip
      refine value_ (w1 := ?_) (v := ?_) (by rfl) rfl ?_ ?_
      rotate_left 2
      · go_simp
        constructor
        all_goals rfl
      have hB1 : Below wd.heap.size wd (wd.alloc (.cells #[.slice none 0 0, .int .i64 0, .int .i64 0, .slice none 0 0, .bool false, .int .i64 0] 61)) := below_one _ _
      have hZ := EBlk.new wd 61 (.slice none 0 0) (.slice none 0 0) 0 0 0 false
      have htle : wd.heap.size ≤ wd.heap.size := Nat.le_refl _
      generalize wd.alloc (.cells #[.slice none 0 0, .int .i64 0, .int .i64 0, .slice none 0 0, .bool false, .int .i64 0] 61) = wx1 at hB1 hZ ⊢
      refine hK.out _ _ ⟨(CD.out.below hB1).blk.c6, (CD.out.below hB1).blk.c7, (CD.out.below hB1).blk.c8, (CD.out.below hB1).blk.c9, (CD.out.below hB1).blk.c10, (CD.out.below hB1).blk.c11, (CD.out.below hB1).blk.c16, (CD.out.below hB1).blk.c13, (AT.out.keep hB1).c0, (AT.out.keep hB1).c1, (AT.out.keep hB1).c2⟩ (fun hHeld => ?_)
      clear hK K
      refine norm_ (a' := ?_) ?_ ?_
      rotate_left
      · show Act.put _ (some 7) _ = _
        simp only [Act.put, List.setIfInBounds_toArray, List.set_cons_zero, List.set_cons_succ, i64_w, i32_w]
        rfl
      refine one_ (i := 19) (N := some 29) #[true, true, true, true, true, true, true, true, true, true, true, true, true, true, true, true, true, true, true, true, false, false, false, true, false, false] rfl rfl (by kernel_rfl) (by decide) (fun K hK => ?_)
      refine goes_ Try.func46 (by kernel_rfl) rfl #[.agg #[.slice AO x1.f0.length cO, .int .i64 x1.f1, .int .i64 x1.f2, .slice AI x1.f3.length cI, .bool x1.f4, .int .i64 x1.f5], .agg #[.int .i64 b.f0, .bool b.f1, .slice A2 b.f2.length k2], .int .i64 now] (by rfl) rfl rfl (by simp only [List.map_toArray, List.map_cons, List.map_nil]; rfl) ?_
      with_reducible refine (recv_lit2 HQ.out AO cO AI cI A2 k2 wx1 (Kd.V_reads' (CD.out.below hB1).o1).2.2 (Kd.V_reads' (CD.out.below hB1).i1).2.2 HL.out (AT.out.keep hB1).cc).mono ?_
      rintro e wx2 ⟨v, rfl, hE, hb⟩
      refine ⟨_, rfl, ?_⟩
      obtain ⟨A5, k5, A6, k6, rfl, hO, hI⟩ := six_read hE
      clear hE
      replace hO := Kd.V_mono hO (ok' := fun k => wd.heap.size ≤ k ∧ k ≠ wd.heap.size) (fun k hk => show wd.heap.size ≤ k ∧ k ≠ wd.heap.size from ⟨by have := hB1.size; omega, by have := heap_lt hZ; omega⟩)
      replace hI := Kd.V_mono hI (ok' := fun k => wd.heap.size ≤ k ∧ k ≠ wd.heap.size) (fun k hk => show wd.heap.size ≤ k ∧ k ≠ wd.heap.size from ⟨by have := hB1.size; omega, by have := heap_lt hZ; omega⟩)
      replace hZ := hZ.below hb
      have hB2 : Below wd.heap.size wd wx2 := bb hB1 hb
      clear hb
      refine hK.out _ _ ⟨(CD.out.below hB2).blk.c6, (CD.out.below hB2).blk.c7, (CD.out.below hB2).blk.c8, (CD.out.below hB2).blk.c9, (CD.out.below hB2).blk.c10, (CD.out.below hB2).blk.c11, (CD.out.below hB2).blk.c16, (CD.out.below hB2).blk.c13, (AT.out.keep hB2).c0, (AT.out.keep hB2).c1, (AT.out.keep hB2).c2⟩ (fun hHeld => ?_)
      clear hK K
      refine norm_ (a' := ?_) ?_ ?_
      rotate_left
      · show Act.put _ (some 29) _ = _
        simp only [Act.put, List.setIfInBounds_toArray, List.set_cons_zero, List.set_cons_succ, i64_w, i32_w]
        rfl
      refine pure_ (i := 20) (N := some 9) (v := ?_) (a' := ?_) #[true, true, true, true, true, true, true, true, true, true, true, true, true, true, true, true, true, true, true, true, true, false, false, true, false, false] rfl rfl (by kernel_rfl) (fun _ _ _ h => h) (Or.inl ⟨by rfl, ?_⟩) ?_ ?_
      rotate_left
      · intro w'
        go_simp
        with_reducible rfl
      rotate_left
      · simp only [Act.put, List.setIfInBounds_toArray, List.set_cons_zero, List.set_cons_succ, i64_w, i32_w]
        rfl
      refine pure_ (i := 21) (N := some 30) (v := ?_) (a' := ?_) #[true, true, true, true, true, true, true, true, true, true, true, true, true, true, true, true, true, true, true, true, true, true, false, true, false, false] rfl rfl (by kernel_rfl) (fun _ _ _ h => h) (Or.inl ⟨by rfl, ?_⟩) ?_ ?_
      rotate_left
      · intro w'
        go_simp
        with_reducible rfl
      rotate_left
      · simp only [Act.put, List.setIfInBounds_toArray, List.set_cons_zero, List.set_cons_succ, i64_w, i32_w]
        rfl
      refine pure_ (i := 22) (N := some 31) (v := ?_) (a' := ?_) #[true, true, true, true, true, true, true, true, true, true, true, true, true, true, true, true, true, true, true, true, true, true, true, true, false, false] rfl rfl (by kernel_rfl) (fun _ _ _ h => h) (Or.inl ⟨by rfl, ?_⟩) ?_ ?_
      rotate_left
      · intro w'
        go_simp
        with_reducible rfl
      rotate_left
      · simp only [Act.put, List.setIfInBounds_toArray, List.set_cons_zero, List.set_cons_succ, i64_w, i32_w]
        rfl
      exact norm_ (by simp only [putAll, Act.put, List.setIfInBounds_toArray, List.set_cons_zero, List.set_cons_succ] <;> rfl) (hCont (wd.heap.size, A5, k5, A6, k6) _ ⟨hB2, htle, hZ, hO, hI⟩)
  rintro ⟨t, A5, k5, A6, k6⟩ w3 ⟨hB, htle, hZ, hO, hI⟩
  have hHeld : w3.cell? ⟨g, 6, none⟩ = some (.slice AO x1.f0.length cO) ∧ w3.cell? ⟨g, 7, none⟩ = some (.int .i64 x1.f1) ∧ w3.cell? ⟨g, 8, none⟩ = some (.int .i64 x1.f2) ∧ w3.cell? ⟨g, 9, none⟩ = some (.slice AI x1.f3.length cI) ∧ w3.cell? ⟨g, 10, none⟩ = some (.bool x1.f4) ∧ w3.cell? ⟨g, 11, none⟩ = some (.int .i64 x1.f5) ∧ w3.cell? ⟨g, 16, none⟩ = some (.int .i64 now) ∧ w3.cell? ⟨g, 13, none⟩ = some (.slice (some ad) l1.length cW) ∧ w3.cell? (ad.add (i * 3)) = some (.int .i64 b.f0) ∧ w3.cell? ⟨(ad.add (i * 3)).block, (ad.add (i * 3)).off + 1, none⟩ = some (.bool b.f1) ∧ w3.cell? ⟨(ad.add (i * 3)).block, (ad.add (i * 3)).off + 2, none⟩ = some (.slice A2 b.f2.length k2) := ⟨(CD.out.below hB).blk.c6, (CD.out.below hB).blk.c7, (CD.out.below hB).blk.c8, (CD.out.below hB).blk.c9, (CD.out.below hB).blk.c10, (CD.out.below hB).blk.c11, (CD.out.below hB).blk.c16, (CD.out.below hB).blk.c13, (AT.out.keep hB).c0, (AT.out.keep hB).c1, (AT.out.keep hB).c2⟩
  refine norm_ (a' := ?_) ?_ ?_
  rotate_left
  · simp only [putAll, Act.put, List.setIfInBounds_toArray, List.set_cons_zero, List.set_cons_succ]
    rfl
  refine last_ (i := 24) (N := none) #[true, true, true, true, true, true, true, true, true, true, true, true, true, true, true, true, true, true, true, true, true, true, true, true, true, false] rfl rfl (by kernel_rfl) (by decide) (fun K hK => ?_)
  have z0 := hZ.c0; have z1 := hZ.c1; have z2 := hZ.c2; have z3 := hZ.c3; have z4 := hZ.c4; have z5 := hZ.c5; have y := blk_frozen hZ
  refine skip_ (w1 := ?_) (by rfl) rfl ?_ ?_
  rotate_left
  · go_simp
    rfl
  obtain ⟨w4, hw9, Z9, F9⟩ := six hZ (.slice A5 x.f0.length k5) x.f1 x.f2 (.slice A6 x.f3.length k6) x.f4 x.f5
  rw [← hw9]
  clear hw9 z0 z1 z2 z3 z4 z5 y
  refine hK.out _ _ ?_
  clear hK K
  refine pure_ (i := 25) (N := some 8) (v := ?_) (a' := ?_) #[true, true, true, true, true, true, true, true, true, true, true, true, true, true, true, true, true, true, true, true, true, true, true, true, true, true] rfl rfl (by kernel_rfl) (fun _ _ _ h => h) (Or.inl ⟨by rfl, ?_⟩) ?_ ?_
  rotate_left
  · intro w'
    go_simp
    with_reducible rfl
  rotate_left
  · simp only [Act.put, List.setIfInBounds_toArray, List.set_cons_zero, List.set_cons_succ, i64_w, i32_w]
    rfl
  refine done_ (by kernel_rfl) ?_

  have hB4 : Below wd.heap.size wd w4 := Fr.below F9 hB (Nat.le_refl _) (fun k hk => by omega)
  have C4 := Lib.hid (CD.out.below hB4)
  have O4 := Lib.hid (Kd.V_mono (Kd.V_step hO (fun k hk hlt => F9.same k hlt hk.2)) (fun k hk => CD.out.fresh hk.1))
  have I4 := Lib.hid (Kd.V_mono (Kd.V_step hI (fun k hk hlt => F9.same k hlt hk.2)) (fun k hk => CD.out.fresh hk.1))
  have Z4 := Lib.hid Z9
  have B4 := Lib.hid (bb HWS.out hB4)
  clear hO hI F9 hB hB4 hZ Z9 htle hHeld HQ
  by_cases hr : r = 0
  · subst hr
    go_wp2_with fail
    have B5 := Lib.hid (show Below W.heap.size W w4.drew from below_drew B4.out)
    replace C4 := Lib.hid (C4.out.below (below_drew (Below.refl _ _))); replace O4 := Lib.hid (Kd.V_drew O4.out); replace I4 := Lib.hid (Kd.V_drew I4.out); replace Z4 := Lib.hid (Z4.out.below (below_drew (Below.refl _ _)))
    refine start_ (n := 7) (S := fun w' => w'.cell? ⟨t, 0, none⟩ = some (.slice A5 x.f0.length k5) ∧ w'.cell? ⟨t, 1, none⟩ = some (.int .i64 x.f1) ∧ w'.cell? ⟨t, 2, none⟩ = some (.int .i64 x.f2) ∧ w'.cell? ⟨t, 3, none⟩ = some (.slice A6 x.f3.length k6) ∧ w'.cell? ⟨t, 4, none⟩ = some (.bool x.f4) ∧ w'.cell? ⟨t, 5, none⟩ = some (.int .i64 x.f5)) (ds := [6]) #[false, false, false, false, false, false, false] (by kernel_rfl) rfl rfl ⟨Z4.out.c0, Z4.out.c1, Z4.out.c2, Z4.out.c3, Z4.out.c4, Z4.out.c5⟩ (fun hHeld => ?_)
    generalize w4.drew = w5 at B5 C4 O4 I4 Z4 hHeld ⊢
    refine pure_ (i := 0) (N := some 34) (v := ?_) (a' := ?_) #[true, false, false, false, false, false, false] rfl rfl (by kernel_rfl) (fun _ _ _ h => h) (Or.inl ⟨by rfl, ?_⟩) ?_ ?_
    rotate_left
    · intro w'
      go_simp
      with_reducible rfl
    rotate_left
    · simp only [Act.put, List.setIfInBounds_toArray, List.set_cons_zero, List.set_cons_succ, i64_w, i32_w]
      rfl
    refine pure_ (i := 1) (N := some 35) (v := ?_) (a' := ?_) #[true, true, false, false, false, false, false] rfl rfl (by kernel_rfl) (fun _ _ _ h => h) (Or.inl ⟨by rfl, ?_⟩) ?_ ?_
    rotate_left
    · intro w'
      go_simp
      with_reducible rfl
    rotate_left
    · simp only [Act.put, List.setIfInBounds_toArray, List.set_cons_zero, List.set_cons_succ, i64_w, i32_w]
      rfl
    refine pure_ (i := 3) (N := some 37) (v := ?_) (a' := ?_) #[true, true, false, true, false, false, false] rfl rfl (by kernel_rfl) (fun _ _ _ h => h) (Or.inl ⟨by rfl, ?_⟩) ?_ ?_
    rotate_left
    · intro w'
      go_simp
      with_reducible rfl
    rotate_left
    · simp only [Act.put, List.setIfInBounds_toArray, List.set_cons_zero, List.set_cons_succ, i64_w, i32_w]
      rfl
    refine pure_ (i := 4) (N := some 38) (v := ?_) (a' := ?_) #[true, true, false, true, true, false, false] rfl rfl (by kernel_rfl) (fun _ _ _ h => h) (Or.inl ⟨by rfl, ?_⟩) ?_ ?_
    rotate_left
    · intro w'
      go_simp
      with_reducible rfl
    rotate_left
    · simp only [Act.put, List.setIfInBounds_toArray, List.set_cons_zero, List.set_cons_succ, i64_w, i32_w]
      rfl
    refine take_ (i := 2) (N := some 36) (v := ?_) (a' := ?_) #[true, true, true, true, true, false, false] rfl rfl (by kernel_rfl) (fun _ _ _ h => h) (Or.inl ⟨by rfl, ?_⟩) hHeld ?_ ?_
    rotate_left
    · rintro w' ⟨s0, s1, s2, s3, s4, s5⟩
      go_simp
      with_reducible rfl
    rotate_left
    · simp only [Act.put, List.setIfInBounds_toArray, List.set_cons_zero, List.set_cons_succ, i64_w, i32_w]
      rfl
    refine pure_ (i := 5) (N := some 39) (v := ?_) (a' := ?_) #[true, true, true, true, true, true, false] rfl rfl (by kernel_rfl) (fun _ _ _ h => h) (Or.inl ⟨by rfl, ?_⟩) ?_ ?_
    rotate_left
    · intro w'
      go_simp
      with_reducible rfl
    rotate_left
    · simp only [Act.put, List.setIfInBounds_toArray, List.set_cons_zero, List.set_cons_succ, i64_w, i32_w]
      rfl
    refine last_ (i := 6) (N := none) #[true, true, true, true, true, true, true] rfl rfl (by kernel_rfl) (by decide) (fun K hK => ?_)
    have z0 := C4.out.blk.c6; have z1 := C4.out.blk.c7; have z2 := C4.out.blk.c8; have z3 := C4.out.blk.c9; have z4 := C4.out.blk.c10; have z5 := C4.out.blk.c11; have y := blk_frozen C4.out.blk
    refine skip_ (w1 := ?_) (by rfl) rfl ?_ ?_
    rotate_left
    · go_simp
      rfl
    obtain ⟨w6, hw9, hB9, F9⟩ := C4.out.blk.end1 (.slice A5 x.f0.length k5) (.slice A6 x.f3.length k6) x
    rw [← hw9]
    clear hw9 z0 z1 z2 z3 z4 z5 y
    refine hK.out _ _ ?_
    clear hK K
    refine done_ (by kernel_rfl) ?_

    have C6 := Lib.hid (C4.out.set1 F9 hB9 O4.out I4.out)
    have FF := Lib.hid (Fr.trans (Fr.of_below B5.out (fun k => k = g)) F9 (fun _ _ h => h))
    clear C4 O4 I4 Z4 F9 hB9 hHeld
    go_wp2_with fail
    go_ret
    exact ⟨rfl, ⟨.slice A5 x.f0.length k5, .slice A6 x.f3.length k6, C6.out⟩, FF.out⟩
  · have hz : (r != 0) = true := by simpa using hr
    have HRN := Lib.hid hr
    clear hr
    go_wp2_with fail
    go_ret
    exact Or.inl ⟨HRN.out, rfl, B4.out⟩
set_option maxHeartbeats 16000000 in
set_option maxRecDepth 100000 in
/-- An operation that delivers or loses. -/
theorem step_else (w W : World) (g n : Nat) (hn : n ≤ 1000) (h : ChInv w W g n) (k e s t p : Int) (hk0 : k ≠ 0) (hk1 : k ≠ 1) :
    Calls Try.prog 38 #[.pointer (some ⟨g, 0, none⟩), .agg #[.int .i64 k, .int .i64 e, .int .i64 s, .int .i64 t, .int .i64 p]] W fun e W' => e = .returned (.bool true) ∧ ChInv w W' g (n + 1) := by
  obtain ⟨vo0, vi0, x0, vo1, vi1, x1, w0, w1, l0, l1, p0, p1, r0, r1, now, hC, hI, hl0, hl1⟩ := h
  have C := Lib.hid hC; have I := Lib.hid hI; have L0 := Lib.hid hl0; have L1 := Lib.hid hl1
  clear hC hI hl0 hl1
  obtain ⟨ee, hee⟩ : ∃ ee, ee = Go.bits .and .i64 e 1 := ⟨_, rfl⟩
  have h01 := and_1 e
  rw [← hee] at h01
  have HEE := Lib.hid hee.symm
  have hor : ee = 0 ∨ ee = 1 := by omega
  have HN := Lib.hid hn
  clear h01 hee hn
  have hk0' : (k == 0) = false := by simpa using hk0
  have hk1' : (k == 1) = false := by simpa using hk1
  rcases hor with rfl | rfl
  · have he := HEE.out
    clear hk0 hk1
    obtain ⟨AW, cW, hvw⟩ := Kd.R_slice C.out.ww0
    subst hvw
    have c12 := (C.out.below (below_one W (.cells #[.int .i64 k, .int .i64 e, .int .i64 s, .int .i64 t, .int .i64 p] 75))).blk.c12
    by_cases hz : l0.length = 0
    · rw [hz] at c12
      go_enter Try.func38, Try.ntmps38
      have O := Lib.hid (OBlk.new W k e s t p)
      have o0 := O.out.c0; have o1 := O.out.c1
      go_wp2_with fail
      go_ret
      exact ⟨rfl, _, _, _, _, _, _, _, _, _, _, _, _, _, _, _, C.out.below (below_one _ _), I.out.next, by have := L0.out; omega, by have := L1.out; omega⟩
    · have hz' : ((l0.length : Int) == 0) = false := by simp only [beq_eq_false_iff_ne]; omega
      go_enter Try.func38, Try.ntmps38
      have O := Lib.hid (OBlk.new W k e s t p)
      have o0 := O.out.c0; have o1 := O.out.c1
      go_wp2_with fail
      obtain ⟨tO, htO⟩ : ∃ tO, tO = W.heap.size := ⟨_, rfl⟩
      rw [← htO] at O
      rw [← htO]
      replace C := Lib.hid (C.out.below (below_one W (.cells #[.int .i64 k, .int .i64 e, .int .i64 s, .int .i64 t, .int .i64 p] 75)))
      clear htO o0 o1 c12
      generalize W.alloc (.cells #[.int .i64 k, .int .i64 e, .int .i64 s, .int .i64 t, .int .i64 p] 75) = w2 at C O ⊢
      replace C := Lib.hid (C.out.below (below_drew (Below.refl _ _)))
      replace O := Lib.hid (O.out.below (below_drew (Below.refl _ _)))
      refine start_ (n := 12) (S := fun w' => w'.cell? ⟨tO, 4, none⟩ = some (.int .i64 p) ∧ w'.cell? ⟨g, 12, none⟩ = some (.slice AW l0.length cW)) (ds := []) #[false, false, false, false, false, false, false, false, false, false, false, false] (by kernel_rfl) rfl rfl ⟨O.out.c4, C.out.blk.c12⟩ (fun hHeld => ?_)
      generalize w2.drew = w3 at C O hHeld ⊢
      refine pure_ (i := 0) (N := some 108) (v := ?_) (a' := ?_) #[true, false, false, false, false, false, false, false, false, false, false, false] rfl rfl (by kernel_rfl) (fun _ _ _ h => h) (Or.inl ⟨by rfl, ?_⟩) ?_ ?_
      rotate_left
      · intro w'
        go_simp
        with_reducible rfl
      rotate_left
      · simp only [Act.put, List.setIfInBounds_toArray, List.set_cons_zero, List.set_cons_succ, i64_w, i32_w]
        rfl
      refine pure_ (i := 3) (N := some 111) (v := ?_) (a' := ?_) #[true, false, false, true, false, false, false, false, false, false, false, false] rfl rfl (by kernel_rfl) (fun _ _ _ h => h) (Or.inl ⟨by rfl, ?_⟩) ?_ ?_
      rotate_left
      · intro w'
        go_simp
        with_reducible rfl
      rotate_left
      · simp only [Act.put, List.setIfInBounds_toArray, List.set_cons_zero, List.set_cons_succ, i64_w, i32_w]
        rfl
      refine pure_ (i := 4) (N := some 112) (v := ?_) (a' := ?_) #[true, false, false, true, true, false, false, false, false, false, false, false] rfl rfl (by kernel_rfl) (fun _ _ _ h => h) (Or.inl ⟨by rfl, ?_⟩) ?_ ?_
      rotate_left
      · intro w'
        go_simp
        with_reducible rfl
      rotate_left
      · simp only [Act.put, List.setIfInBounds_toArray, List.set_cons_zero, List.set_cons_succ, i64_w, i32_w]
        rfl
      refine pure_ (i := 5) (N := some 113) (v := ?_) (a' := ?_) #[true, false, false, true, true, true, false, false, false, false, false, false] rfl rfl (by kernel_rfl) (fun _ _ _ h => h) (Or.inl ⟨by rfl, ?_⟩) ?_ ?_
      rotate_left
      · intro w'
        go_simp
        with_reducible rfl
      rotate_left
      · simp only [Act.put, List.setIfInBounds_toArray, List.set_cons_zero, List.set_cons_succ, i64_w, i32_w]
        rfl
      refine pure_ (i := 6) (N := some 114) (v := ?_) (a' := ?_) #[true, false, false, true, true, true, true, false, false, false, false, false] rfl rfl (by kernel_rfl) (fun _ _ _ h => h) (Or.inl ⟨by rfl, ?_⟩) ?_ ?_
      rotate_left
      · intro w'
        go_simp
        with_reducible rfl
      rotate_left
      · simp only [Act.put, List.setIfInBounds_toArray, List.set_cons_zero, List.set_cons_succ, i64_w, i32_w]
        rfl
      refine pure_ (i := 7) (N := some 115) (v := ?_) (a' := ?_) #[true, false, false, true, true, true, true, true, false, false, false, false] rfl rfl (by kernel_rfl) (fun _ _ _ h => h) (Or.inl ⟨by rfl, ?_⟩) ?_ ?_
      rotate_left
      · intro w'
        go_simp
        with_reducible rfl
      rotate_left
      · simp only [Act.put, List.setIfInBounds_toArray, List.set_cons_zero, List.set_cons_succ, i64_w, i32_w]
        rfl
      refine take_ (i := 1) (N := some 109) (v := ?_) (a' := ?_) #[true, true, false, true, true, true, true, true, false, false, false, false] rfl rfl (by kernel_rfl) (fun _ _ _ h => h) (Or.inl ⟨by rfl, ?_⟩) hHeld ?_ ?_
      rotate_left
      · rintro w' ⟨s0, s1⟩
        go_simp
        with_reducible rfl
      rotate_left
      · simp only [Act.put, List.setIfInBounds_toArray, List.set_cons_zero, List.set_cons_succ, i64_w, i32_w]
        rfl
      refine pure_ (i := 2) (N := some 110) (v := ?_) (a' := ?_) #[true, true, true, true, true, true, true, true, false, false, false, false] rfl rfl (by kernel_rfl) (fun _ _ _ h => h) (Or.inl ⟨by rfl, ?_⟩) ?_ ?_
      rotate_left
      · intro w'
        go_simp
        with_reducible rfl
      rotate_left
      · simp only [Act.put, List.setIfInBounds_toArray, List.set_cons_zero, List.set_cons_succ, i64_w, i32_w]
        rfl
      refine take_ (i := 8) (N := some 116) (v := ?_) (a' := ?_) #[true, true, true, true, true, true, true, true, true, false, false, false] rfl rfl (by kernel_rfl) (fun _ _ _ h => h) (Or.inl ⟨by rfl, ?_⟩) hHeld ?_ ?_
      rotate_left
      · rintro w' ⟨s0, s1⟩
        go_simp
        with_reducible rfl
      rotate_left
      · simp only [Act.put, List.setIfInBounds_toArray, List.set_cons_zero, List.set_cons_succ, i64_w, i32_w]
        rfl
      refine pure_ (i := 9) (N := some 117) (v := ?_) (a' := ?_) #[true, true, true, true, true, true, true, true, true, true, false, false] rfl rfl (by kernel_rfl) (fun _ _ _ h => h) (Or.inl ⟨by rfl, ?_⟩) ?_ ?_
      rotate_left
      · intro w'
        go_simp
        with_reducible rfl
      rotate_left
      · simp only [Act.put, List.setIfInBounds_toArray, List.set_cons_zero, List.set_cons_succ, i64_w, i32_w]
        rfl
      refine pure_ (i := 10) (N := some 118) (v := ?_) (a' := ?_) #[true, true, true, true, true, true, true, true, true, true, true, false] rfl rfl (by kernel_rfl) (fun _ _ _ h => h) (Or.inl ⟨by rfl, ?_⟩) ?_ ?_
      rotate_left
      · intro w'
        go_simp
        with_reducible rfl
      rotate_left
      · simp only [Act.put, List.setIfInBounds_toArray, List.set_cons_zero, List.set_cons_succ, i64_w, i32_w]
        rfl
      refine pure_ (i := 11) (N := some 10) (v := ?_) (a' := ?_) #[true, true, true, true, true, true, true, true, true, true, true, true] rfl rfl (by kernel_rfl) (fun _ _ _ h => h) (Or.inl ⟨by rfl, ?_⟩) ?_ ?_
      rotate_left
      · intro w'
        go_simp
        with_reducible rfl
      rotate_left
      · simp only [Act.put, List.setIfInBounds_toArray, List.set_cons_zero, List.set_cons_succ, i64_w, i32_w]
        rfl
      refine done_ (by kernel_rfl) ?_

      obtain ⟨i, hi, hlt⟩ := pick_ex p hz
      rw [hi]
      have HLT := Lib.hid hlt
      have o0 := O.out.c0
      clear hi hHeld hlt hz hz'
      by_cases h3 : k = 3
      · subst h3
        go_wp2_with fail
        refine (loseCh0 w w3 g _ _ _ _ _ _ _ _ _ _ _ _ _ _ _ C.out i HLT.out (by have := L0.out; have := HN.out; omega)).mono ?_
        rintro e' w5 ⟨rfl, wv, hC⟩
        have C5 := Lib.hid hC
        clear hC
        go_wp2_with fail
        go_ret
        exact ⟨rfl, _, _, _, _, _, _, _, _, _, _, _, _, _, _, _, C5.out, (I.out.lose0 (fun b hb => mem_lose hb)).next, lose_len _ _ _ (by have := L0.out; omega), by have := L1.out; omega⟩
      · have h3' : (k == 3) = false := by simpa using h3
        have h3n : (k != 3) = true := by simpa using h3
        obtain ⟨x, hq, hI⟩ := I.out.deliver (by have := HN.out; omega) (l0[i]'HLT.out) (List.getElem_mem HLT.out)
        obtain ⟨B1, F1, E1, d1, hB1⟩ := I.out.d1
        have hs := (d1.small hB1).1
        have HQ := Lib.hid hq; have I5 := Lib.hid hI; have HS := Lib.hid hs
        clear h3 hq hI d1 hB1 hs
        go_wp2_with fail
        refine (delF0 w w3 g _ _ _ _ _ _ _ _ _ _ _ _ _ _ _ C.out (by have := HS.out; have := HN.out; omega) i HLT.out (by have := L0.out; have := HN.out; omega) _ rfl x 0 HQ.out).mono ?_
        rintro e' w5 (⟨hne, _⟩ | ⟨_, rfl, ⟨vo, vi, hC⟩, hF⟩)
        · exact absurd rfl hne
        have C5 := Lib.hid hC
        clear hC o0
        have hgO : tO ≠ g := fun e => by have h1 := O.out; have h2 := C.out.blk; rw [e] at h1; exact absurd rfl (blk_ne h1 h2 (by decide))
        replace O := Lib.hid (show OBlk w5 tO k e s t p from hF.blk O.out hgO)
        clear hF hgO
        have o0 := O.out.c0
        by_cases h4 : k = 4
        · subst h4
          go_wp2_with fail
          go_ret
          exact ⟨rfl, _, _, _, _, _, _, _, _, _, _, _, _, _, _, _, C5.out, I5.out.next, by have := L0.out; omega, by have := L1.out; omega⟩
        · have h4' : (k == 4) = false := by simpa using h4
          have h4n : (k != 4) = true := by simpa using h4
          clear h4
          go_wp2_with fail
          refine (loseCh0 w w5 g _ _ _ _ _ _ _ _ _ _ _ _ _ _ _ C5.out i HLT.out (by have := L0.out; have := HN.out; omega)).mono ?_
          rintro e' w6 ⟨rfl, wv, hC⟩
          have C6 := Lib.hid hC
          clear hC
          go_wp2_with fail
          go_ret
          exact ⟨rfl, _, _, _, _, _, _, _, _, _, _, _, _, _, _, _, C6.out, (I5.out.lose0 (fun b hb => mem_lose hb)).next, lose_len _ _ _ (by have := L0.out; omega), by have := L1.out; omega⟩
  · have he := HEE.out
    clear hk0 hk1
    obtain ⟨AW, cW, hvw⟩ := Kd.R_slice C.out.ww1
    subst hvw
    have c12 := (C.out.below (below_one W (.cells #[.int .i64 k, .int .i64 e, .int .i64 s, .int .i64 t, .int .i64 p] 75))).blk.c13
    by_cases hz : l1.length = 0
    · rw [hz] at c12
      go_enter Try.func38, Try.ntmps38
      have O := Lib.hid (OBlk.new W k e s t p)
      have o0 := O.out.c0; have o1 := O.out.c1
      go_wp2_with fail
      go_ret
      exact ⟨rfl, _, _, _, _, _, _, _, _, _, _, _, _, _, _, _, C.out.below (below_one _ _), I.out.next, by have := L0.out; omega, by have := L1.out; omega⟩
    · have hz' : ((l1.length : Int) == 0) = false := by simp only [beq_eq_false_iff_ne]; omega
      go_enter Try.func38, Try.ntmps38
      have O := Lib.hid (OBlk.new W k e s t p)
      have o0 := O.out.c0; have o1 := O.out.c1
      go_wp2_with fail
      obtain ⟨tO, htO⟩ : ∃ tO, tO = W.heap.size := ⟨_, rfl⟩
      rw [← htO] at O
      rw [← htO]
      replace C := Lib.hid (C.out.below (below_one W (.cells #[.int .i64 k, .int .i64 e, .int .i64 s, .int .i64 t, .int .i64 p] 75)))
      clear htO o0 o1 c12
      generalize W.alloc (.cells #[.int .i64 k, .int .i64 e, .int .i64 s, .int .i64 t, .int .i64 p] 75) = w2 at C O ⊢
      replace C := Lib.hid (C.out.below (below_drew (Below.refl _ _)))
      replace O := Lib.hid (O.out.below (below_drew (Below.refl _ _)))
      refine start_ (n := 12) (S := fun w' => w'.cell? ⟨tO, 4, none⟩ = some (.int .i64 p) ∧ w'.cell? ⟨g, 13, none⟩ = some (.slice AW l1.length cW)) (ds := []) #[false, false, false, false, false, false, false, false, false, false, false, false] (by kernel_rfl) rfl rfl ⟨O.out.c4, C.out.blk.c13⟩ (fun hHeld => ?_)
      generalize w2.drew = w3 at C O hHeld ⊢
      refine pure_ (i := 0) (N := some 108) (v := ?_) (a' := ?_) #[true, false, false, false, false, false, false, false, false, false, false, false] rfl rfl (by kernel_rfl) (fun _ _ _ h => h) (Or.inl ⟨by rfl, ?_⟩) ?_ ?_
      rotate_left
      · intro w'
        go_simp
        with_reducible rfl
      rotate_left
      · simp only [Act.put, List.setIfInBounds_toArray, List.set_cons_zero, List.set_cons_succ, i64_w, i32_w]
        rfl
      refine pure_ (i := 3) (N := some 111) (v := ?_) (a' := ?_) #[true, false, false, true, false, false, false, false, false, false, false, false] rfl rfl (by kernel_rfl) (fun _ _ _ h => h) (Or.inl ⟨by rfl, ?_⟩) ?_ ?_
      rotate_left
      · intro w'
        go_simp
        with_reducible rfl
      rotate_left
      · simp only [Act.put, List.setIfInBounds_toArray, List.set_cons_zero, List.set_cons_succ, i64_w, i32_w]
        rfl
      refine pure_ (i := 4) (N := some 112) (v := ?_) (a' := ?_) #[true, false, false, true, true, false, false, false, false, false, false, false] rfl rfl (by kernel_rfl) (fun _ _ _ h => h) (Or.inl ⟨by rfl, ?_⟩) ?_ ?_
      rotate_left
      · intro w'
        go_simp
        with_reducible rfl
      rotate_left
      · simp only [Act.put, List.setIfInBounds_toArray, List.set_cons_zero, List.set_cons_succ, i64_w, i32_w]
        rfl
      refine pure_ (i := 5) (N := some 113) (v := ?_) (a' := ?_) #[true, false, false, true, true, true, false, false, false, false, false, false] rfl rfl (by kernel_rfl) (fun _ _ _ h => h) (Or.inl ⟨by rfl, ?_⟩) ?_ ?_
      rotate_left
      · intro w'
        go_simp
        with_reducible rfl
      rotate_left
      · simp only [Act.put, List.setIfInBounds_toArray, List.set_cons_zero, List.set_cons_succ, i64_w, i32_w]
        rfl
      refine pure_ (i := 6) (N := some 114) (v := ?_) (a' := ?_) #[true, false, false, true, true, true, true, false, false, false, false, false] rfl rfl (by kernel_rfl) (fun _ _ _ h => h) (Or.inl ⟨by rfl, ?_⟩) ?_ ?_
      rotate_left
      · intro w'
        go_simp
        with_reducible rfl
      rotate_left
      · simp only [Act.put, List.setIfInBounds_toArray, List.set_cons_zero, List.set_cons_succ, i64_w, i32_w]
        rfl
      refine pure_ (i := 7) (N := some 115) (v := ?_) (a' := ?_) #[true, false, false, true, true, true, true, true, false, false, false, false] rfl rfl (by kernel_rfl) (fun _ _ _ h => h) (Or.inl ⟨by rfl, ?_⟩) ?_ ?_
      rotate_left
      · intro w'
        go_simp
        with_reducible rfl
      rotate_left
      · simp only [Act.put, List.setIfInBounds_toArray, List.set_cons_zero, List.set_cons_succ, i64_w, i32_w]
        rfl
      refine take_ (i := 1) (N := some 109) (v := ?_) (a' := ?_) #[true, true, false, true, true, true, true, true, false, false, false, false] rfl rfl (by kernel_rfl) (fun _ _ _ h => h) (Or.inl ⟨by rfl, ?_⟩) hHeld ?_ ?_
      rotate_left
      · rintro w' ⟨s0, s1⟩
        go_simp
        with_reducible rfl
      rotate_left
      · simp only [Act.put, List.setIfInBounds_toArray, List.set_cons_zero, List.set_cons_succ, i64_w, i32_w]
        rfl
      refine pure_ (i := 2) (N := some 110) (v := ?_) (a' := ?_) #[true, true, true, true, true, true, true, true, false, false, false, false] rfl rfl (by kernel_rfl) (fun _ _ _ h => h) (Or.inl ⟨by rfl, ?_⟩) ?_ ?_
      rotate_left
      · intro w'
        go_simp
        with_reducible rfl
      rotate_left
      · simp only [Act.put, List.setIfInBounds_toArray, List.set_cons_zero, List.set_cons_succ, i64_w, i32_w]
        rfl
      refine take_ (i := 8) (N := some 116) (v := ?_) (a' := ?_) #[true, true, true, true, true, true, true, true, true, false, false, false] rfl rfl (by kernel_rfl) (fun _ _ _ h => h) (Or.inl ⟨by rfl, ?_⟩) hHeld ?_ ?_
      rotate_left
      · rintro w' ⟨s0, s1⟩
        go_simp
        with_reducible rfl
      rotate_left
      · simp only [Act.put, List.setIfInBounds_toArray, List.set_cons_zero, List.set_cons_succ, i64_w, i32_w]
        rfl
      refine pure_ (i := 9) (N := some 117) (v := ?_) (a' := ?_) #[true, true, true, true, true, true, true, true, true, true, false, false] rfl rfl (by kernel_rfl) (fun _ _ _ h => h) (Or.inl ⟨by rfl, ?_⟩) ?_ ?_
      rotate_left
      · intro w'
        go_simp
        with_reducible rfl
      rotate_left
      · simp only [Act.put, List.setIfInBounds_toArray, List.set_cons_zero, List.set_cons_succ, i64_w, i32_w]
        rfl
      refine pure_ (i := 10) (N := some 118) (v := ?_) (a' := ?_) #[true, true, true, true, true, true, true, true, true, true, true, false] rfl rfl (by kernel_rfl) (fun _ _ _ h => h) (Or.inl ⟨by rfl, ?_⟩) ?_ ?_
      rotate_left
      · intro w'
        go_simp
        with_reducible rfl
      rotate_left
      · simp only [Act.put, List.setIfInBounds_toArray, List.set_cons_zero, List.set_cons_succ, i64_w, i32_w]
        rfl
      refine pure_ (i := 11) (N := some 10) (v := ?_) (a' := ?_) #[true, true, true, true, true, true, true, true, true, true, true, true] rfl rfl (by kernel_rfl) (fun _ _ _ h => h) (Or.inl ⟨by rfl, ?_⟩) ?_ ?_
      rotate_left
      · intro w'
        go_simp
        with_reducible rfl
      rotate_left
      · simp only [Act.put, List.setIfInBounds_toArray, List.set_cons_zero, List.set_cons_succ, i64_w, i32_w]
        rfl
      refine done_ (by kernel_rfl) ?_

      obtain ⟨i, hi, hlt⟩ := pick_ex p hz
      rw [hi]
      have HLT := Lib.hid hlt
      have o0 := O.out.c0
      clear hi hHeld hlt hz hz'
      by_cases h3 : k = 3
      · subst h3
        go_wp2_with fail
        refine (loseCh1 w w3 g _ _ _ _ _ _ _ _ _ _ _ _ _ _ _ C.out i HLT.out (by have := L1.out; have := HN.out; omega)).mono ?_
        rintro e' w5 ⟨rfl, wv, hC⟩
        have C5 := Lib.hid hC
        clear hC
        go_wp2_with fail
        go_ret
        exact ⟨rfl, _, _, _, _, _, _, _, _, _, _, _, _, _, _, _, C5.out, (I.out.swap.lose0 (fun b hb => mem_lose hb)).swap.next, by have := L0.out; omega, lose_len _ _ _ (by have := L1.out; omega)⟩
      · have h3' : (k == 3) = false := by simpa using h3
        have h3n : (k != 3) = true := by simpa using h3
        obtain ⟨x, hq, hI⟩ := I.out.swap.deliver (by have := HN.out; omega) (l1[i]'HLT.out) (List.getElem_mem HLT.out)
        obtain ⟨B1, F1, E1, d1, hB1⟩ := I.out.d0
        have hs := (d1.small hB1).1
        have HQ := Lib.hid hq; have I5 := Lib.hid hI; have HS := Lib.hid hs
        clear h3 hq hI d1 hB1 hs
        go_wp2_with fail
        refine (delF1 w w3 g _ _ _ _ _ _ _ _ _ _ _ _ _ _ _ C.out (by have := HS.out; have := HN.out; omega) i HLT.out (by have := L1.out; have := HN.out; omega) _ rfl x 0 HQ.out).mono ?_
        rintro e' w5 (⟨hne, _⟩ | ⟨_, rfl, ⟨vo, vi, hC⟩, hF⟩)
        · exact absurd rfl hne
        have C5 := Lib.hid hC
        clear hC o0
        have hgO : tO ≠ g := fun e => by have h1 := O.out; have h2 := C.out.blk; rw [e] at h1; exact absurd rfl (blk_ne h1 h2 (by decide))
        replace O := Lib.hid (show OBlk w5 tO k e s t p from hF.blk O.out hgO)
        clear hF hgO
        have o0 := O.out.c0
        by_cases h4 : k = 4
        · subst h4
          go_wp2_with fail
          go_ret
          exact ⟨rfl, _, _, _, _, _, _, _, _, _, _, _, _, _, _, _, C5.out, I5.out.swap.next, by have := L0.out; omega, by have := L1.out; omega⟩
        · have h4' : (k == 4) = false := by simpa using h4
          have h4n : (k != 4) = true := by simpa using h4
          clear h4
          go_wp2_with fail
          refine (loseCh1 w w5 g _ _ _ _ _ _ _ _ _ _ _ _ _ _ _ C5.out i HLT.out (by have := L1.out; have := HN.out; omega)).mono ?_
          rintro e' w6 ⟨rfl, wv, hC⟩
          have C6 := Lib.hid hC
          clear hC
          go_wp2_with fail
          go_ret
          exact ⟨rfl, _, _, _, _, _, _, _, _, _, _, _, _, _, _, _, C6.out, (I5.out.lose0 (fun b hb => mem_lose hb)).swap.next, by have := L0.out; omega, lose_len _ _ _ (by have := L1.out; omega)⟩
end Go.Proofs.Ytbfhohpbldadbaa.P

namespace Go.Proofs.Ytbfhohpbldadbaa.P
open Go Go.RowKit Go.Proofs.YtbfhohpbldadbaaW.PrintWords Go.Proofs.YtbfhohpbldadbaaW.PrintLast Go.Proofs.YtbfhohpbldadbaaW.PrintMore
set_option linter.unusedVariables false
set_option linter.unusedSimpArgs false
/-- Offer, at what it gives. -/
theorem offer_lit {c : S61} {recs : List S39} {x : S61} {r : Int} (h : offF c recs = (x, r)) (A0 : Option Addr) (c0 : Nat) (A3 : Option Addr) (c3 : Nat) (Ar : Option Addr) (cr : Nat) (w : World) (hr : Kd.C kL w A0 c.f0.length c.f0) (hr3 : Kd.C k39 w A3 c.f3.length c.f3) (hl : c.f3.length ≤ 1000000) (hrr : Kd.C k39 w Ar recs.length recs) :
    Calls Try.prog 35 #[.agg #[.slice A0 c.f0.length c0, .int .i64 c.f1, .int .i64 c.f2, .slice A3 c.f3.length c3, .bool c.f4, .int .i64 c.f5], .slice Ar recs.length cr] w (Off2 x r w) := by
  have hc := offer_calls A0 c0 A3 c3 c Ar cr recs w hr hr3 hl hrr
  rw [h] at hc
  exact hc
def recN (n e : Int) : S39 := ⟨n, 0, 0, ⟨#[]⟩, 0, 0, 0, e⟩
theorem snoc_len (q : List S39) (x : S39) (h : q.length ≤ 10) : wrap64 ((q.length : Int) + 1) = (((q ++ [x]).length : Nat) : Int) := by
  rw [List.length_append, List.length_singleton, wid (by omega) (by omega)]; rfl
theorem off_sz {n m : Nat} (h : n ≤ 100000) (h2 : m ≤ 10) : (n + m) * 72 ≤ 140737488355328 := by omega
set_option maxHeartbeats 16000000 in
set_option maxRecDepth 100000 in
/-- An operation that offers. -/
theorem step_zero (w W : World) (g n : Nat) (hn : n ≤ 1000) (h : ChInv w W g n) (e s t p : Int) :
    Calls Try.prog 38 #[.pointer (some ⟨g, 0, none⟩), .agg #[.int .i64 0, .int .i64 e, .int .i64 s, .int .i64 t, .int .i64 p]] W fun e W' => e = .returned (.bool true) ∧ ChInv w W' g (n + 1) := by
  obtain ⟨vo0, vi0, x0, vo1, vi1, x1, w0, w1, l0, l1, p0, p1, r0, r1, now, hC, hI, hl0, hl1⟩ := h
  have I := Lib.hid hI; have L0 := Lib.hid hl0; have L1 := Lib.hid hl1
  obtain ⟨B0, F0, E0, d0, hB0⟩ := hI.d0
  obtain ⟨B1, F1, E1, d1, hB1⟩ := hI.d1
  have S0 := Lib.hid (d0.small hB0); have S1 := Lib.hid (d1.small hB1)
  clear hI hl0 hl1 d0 d1 hB0 hB1
  obtain ⟨ee, hee⟩ : ∃ ee, ee = Go.bits .and .i64 e 1 := ⟨_, rfl⟩
  have h01 := and_1 e
  rw [← hee] at h01
  have HEE := Lib.hid hee.symm
  have hor : ee = 0 ∨ ee = 1 := by omega
  obtain ⟨s3, hs3⟩ : ∃ s3, s3 = Go.bits .and .i64 s 3 := ⟨_, rfl⟩
  have h02 := and_2b s
  rw [← hs3] at h02
  have HS3 := Lib.hid hs3.symm; have S3R := Lib.hid h02
  have HN := Lib.hid hn
  clear h01 hee hn hs3 h02
  rcases hor with rfl | rfl
  · have he := HEE.out
    obtain ⟨AO, cO, hvo⟩ := Kd.V_slice hC.o0
    obtain ⟨AI, cI, hvi⟩ := Kd.V_slice hC.i0
    obtain ⟨AP, cP, hvp⟩ := Kd.R_slice hC.pp0
    subst hvo hvi
    have C := Lib.hid hC; have HVP := Lib.hid hvp
    clear hC hvp
    go_enter Try.func38, Try.ntmps38
    have O := Lib.hid (OBlk.new W 0 e s t p)
    have o0 := O.out.c0; have o1 := O.out.c1
    go_wp2_with fail
    obtain ⟨tO, htO⟩ : ∃ tO, tO = W.heap.size := ⟨_, rfl⟩
    rw [← htO] at O
    rw [← htO]
    replace C := Lib.hid (C.out.below (below_one W (.cells #[.int .i64 0, .int .i64 e, .int .i64 s, .int .i64 t, .int .i64 p] 75)))
    clear htO o0 o1
    generalize W.alloc (.cells #[.int .i64 0, .int .i64 e, .int .i64 s, .int .i64 t, .int .i64 p] 75) = w2 at C O ⊢
    go_loopw [6, 7] (fun v6 v7 Wc => ∃ q : List S39, v7 = .int .i64 (q.length : Int) ∧ (q.length : Int) ≤ s3 + 1 ∧ Kd.R k39 39 Wc w2.heap.size (fun _ => True) v6 q ∧ Below w2.heap.size w2 Wc) (fun _ i _ => 5 - (intOf i).toNat)
    case atStart => exact ⟨[], rfl, by have := S3R.out; simp only [List.length_nil]; omega, Kd.R_nil _ _ _ _ _, Below.refl _ _⟩
    case round =>
      obtain ⟨q, rfl, hq, hR, hb⟩ := hrel
      obtain ⟨A6, c6, hv6⟩ := Kd.R_slice hR
      have Q := Lib.hid hR; have B := Lib.hid hb; have HQ := Lib.hid hq; have HV6 := Lib.hid hv6
      have Ow := Lib.hid (O.out.below hb); have Cw := Lib.hid (C.out.below hb)
      clear hR hb hq hv6
      have o2 := Ow.out.c2
      have hs3 := HS3.out
      by_cases hlt : (q.length : Int) ≤ s3
      · have cp := Cw.out.blk.c14
        rw [HVP.out] at cp
        have hq4 : q.length ≤ 4 := by have := S3R.out; omega
        have HQ4 := Lib.hid hq4; have HLT := Lib.hid hlt
        clear hq4
        go_wp2_with ((with_reducible refine gate_builtin (b := .append) (xs := #[.tmp 24, .tmp 36]) rfl ?_); at_builtin; refine Kd.R_append_rows (Rr := k39.K (wr.alloc (.cells #[.int .i64 (wrap64 ((r0.length : Int) + (q.length : Int))), .int .i64 0, .int .i64 0, .string ⟨#[]⟩, .int .i64 0, .int .i64 0, .int .i64 0, .int .i64 0] 39))) k39 (w0 := w2) w2.heap.size rfl (.tmp 24) (.tmp 36) 28 39 (.agg #[(.int .i64 0), (.int .i64 0), (.int .i64 0), (.string ⟨#[]⟩), (.int .i64 0), (.int .i64 0), (.int .i64 0), (.int .i64 0)]) 72 rfl Try.underlying28 info39 rfl (by decide) (by decide) u6 q [recN (wrap64 ((r0.length : Int) + (q.length : Int))) 0] (some ⟨wr.heap.size, 0, none⟩) 1 1 (fun _ => True) (fun _ => False) rfl rfl (Kd.R_alloc Q.out _) (C1R wr (recN (wrap64 ((r0.length : Int) + (q.length : Int))) 0)) (fun y cs h => k39_open h ▸ k39_mkM _ _ _ y) (fun _ h => h.elim) (fun _ _ => trivial) (al B.out _) (Nat.le_trans B.out.size (below_one _ _).size) (off_sz (by have := HQ4.out; omega) (by decide)) ?_; intro v3 w5 ho5 hb5 hg5 hat5)
        go_roundw
        case rel =>
          exact ⟨q ++ [recN (wrap64 ((r0.length : Int) + (q.length : Int))) 0], congrArg (Value.int .i64) (snoc_len q _ (by have := HQ4.out; omega)), by have := HLT.out; rw [List.length_append, List.length_singleton]; omega, ho5, hb5⟩
        case measure =>
          have := HQ4.out
          rw [snoc_len q (recN 0 0) (by omega), List.length_append, List.length_singleton]
          simp only [intOf]
          omega
      · have hqs : (q.length : Int) = s3 + 1 := by have := HQ.out; omega
        have hq1 : 1 ≤ q.length := by have := S3R.out; omega
        have hq2 : q.length ≤ 4 := by have := S3R.out; omega
        have HQ4 := Lib.hid hq2
        have hrq := Q.out
        rw [HV6.out] at hrq
        have HQC := Lib.hid (Kd.R_reads' hrq).2.2
        rw [HV6.out]
        rcases I.out.offer (by have := HN.out; omega) q hq1 hq2 with ⟨ho, h64⟩ | ⟨x, ho, hI2⟩
        · have HO := Lib.hid ho; have H64 := Lib.hid h64
          clear hq1 hq2 hqs hrq ho h64
          have d0 := Cw.out.blk.c0
          have d1 := Cw.out.blk.c1
          have d2 := Cw.out.blk.c2
          have d3 := Cw.out.blk.c3
          have d4 := Cw.out.blk.c4
          have d5 := Cw.out.blk.c5
          go_wp2_with fail
          refine (offer_lit HO.out AO cO AI cI A6 c6 _ (Kd.V_reads' Cw.out.o0).2.2 (Kd.V_reads' Cw.out.i0).2.2 (by have := S1.out.1; have := HN.out; omega) HQC.out).mono ?_
          rintro e' w3 ⟨v, rfl, hE, hb3⟩
          obtain ⟨A5, k5, A8, k8, rfl, hO, hI⟩ := six_read hE
          have C3 := Lib.hid (Cw.out.below hb3)
          clear hE hb3 hO hI d0 d1 d2 d3 d4 d5
          have cz := fun o => (C3.out.below (below_one w3 o)).blk.c0
          have hz : ((x0.f0.length : Int) == 64) = true := by have := H64.out; simp only [beq_iff_eq]; omega
          go_wp2_with fail
          go_ret
          exact ⟨rfl, _, _, _, _, _, _, _, _, _, _, _, _, _, _, _, C3.out.below (below_one _ _), I.out.next, by have := L0.out; omega, by have := L1.out; omega⟩
        · have HO := Lib.hid ho; have I2 := Lib.hid hI2
          clear hq1 hq2 hqs hrq ho hI2
          have d0 := Cw.out.blk.c0
          have d1 := Cw.out.blk.c1
          have d2 := Cw.out.blk.c2
          have d3 := Cw.out.blk.c3
          have d4 := Cw.out.blk.c4
          have d5 := Cw.out.blk.c5
          go_wp2_with fail
          refine (offer_lit HO.out AO cO AI cI A6 c6 _ (Kd.V_reads' Cw.out.o0).2.2 (Kd.V_reads' Cw.out.i0).2.2 (by have := S1.out.1; have := HN.out; omega) HQC.out).mono ?_
          rintro e' w3 ⟨v, rfl, hE, hb3⟩
          obtain ⟨A5, k5, A8, k8, rfl, hO, hI⟩ := six_read hE
          have C3 := Lib.hid (Cw.out.below hb3)
          have O3 := Lib.hid (Kd.V_mono hO (fun k hk => Cw.out.fresh hk)); have I3 := Lib.hid (Kd.V_mono hI (fun k hk => Cw.out.fresh hk))
          have Q3 := Lib.hid (Kd.R_mono (Kd.R_bound (Kd.R_below Q.out hb3)) (ok' := fun k => w2.heap.size ≤ k) (fun k hk => hk.2.1))
          rw [HV6.out] at Q3
          clear hE hb3 hO hI d0 d1 d2 d3 d4 d5
          go_wp2_with fail
          obtain ⟨t8, ht8⟩ : ∃ t8, t8 = w3.heap.size := ⟨_, rfl⟩
          have Z4 := Lib.hid (EBlk.new w3 61 (.slice A5 x.f0.length k5) (.slice A8 x.f3.length k8) x.f1 x.f2 x.f5 x.f4)
          rw [← ht8] at Z4
          rw [← ht8]
          have C4 := Lib.hid (C3.out.below (below_one w3 (.cells #[.slice A5 x.f0.length k5, .int .i64 x.f1, .int .i64 x.f2, .slice A8 x.f3.length k8, .bool x.f4, .int .i64 x.f5] 61)))
          have O4 := Lib.hid (Kd.V_below O3.out (below_one w3 (.cells #[.slice A5 x.f0.length k5, .int .i64 x.f1, .int .i64 x.f2, .slice A8 x.f3.length k8, .bool x.f4, .int .i64 x.f5] 61))); have I4 := Lib.hid (Kd.V_below I3.out (below_one w3 (.cells #[.slice A5 x.f0.length k5, .int .i64 x.f1, .int .i64 x.f2, .slice A8 x.f3.length k8, .bool x.f4, .int .i64 x.f5] 61))); have V4 := Lib.hid (Kd.R_below Q3.out (below_one w3 (.cells #[.slice A5 x.f0.length k5, .int .i64 x.f1, .int .i64 x.f2, .slice A8 x.f3.length k8, .bool x.f4, .int .i64 x.f5] 61)))
          clear C3 O3 I3 Q3 ht8
          generalize w3.alloc (.cells #[.slice A5 x.f0.length k5, .int .i64 x.f1, .int .i64 x.f2, .slice A8 x.f3.length k8, .bool x.f4, .int .i64 x.f5] 61) = w4 at C4 O4 I4 V4 Z4 ⊢
          replace C4 := Lib.hid (C4.out.below (below_drew (Below.refl _ _))); replace O4 := Lib.hid (Kd.V_drew O4.out); replace I4 := Lib.hid (Kd.V_drew I4.out); replace V4 := Lib.hid (Kd.R_drew V4.out); replace Z4 := Lib.hid (Z4.out.below (below_drew (Below.refl _ _)))
          refine start_ (n := 7) (S := fun w' => w'.cell? ⟨t8, 0, none⟩ = some (.slice A5 x.f0.length k5) ∧ w'.cell? ⟨t8, 1, none⟩ = some (.int .i64 x.f1) ∧ w'.cell? ⟨t8, 2, none⟩ = some (.int .i64 x.f2) ∧ w'.cell? ⟨t8, 3, none⟩ = some (.slice A8 x.f3.length k8) ∧ w'.cell? ⟨t8, 4, none⟩ = some (.bool x.f4) ∧ w'.cell? ⟨t8, 5, none⟩ = some (.int .i64 x.f5)) (ds := [6]) #[false, false, false, false, false, false, false] (by kernel_rfl) rfl rfl ⟨Z4.out.c0, Z4.out.c1, Z4.out.c2, Z4.out.c3, Z4.out.c4, Z4.out.c5⟩ (fun hHeld => ?_)
          generalize w4.drew = w5 at C4 O4 I4 V4 Z4 hHeld ⊢
          refine pure_ (i := 0) (N := some 64) (v := ?_) (a' := ?_) #[true, false, false, false, false, false, false] rfl rfl (by kernel_rfl) (fun _ _ _ h => h) (Or.inl ⟨by rfl, ?_⟩) ?_ ?_
          rotate_left
          · intro w'
            go_simp
            with_reducible rfl
          rotate_left
          · simp only [Act.put, List.setIfInBounds_toArray, List.set_cons_zero, List.set_cons_succ, i64_w, i32_w]
            rfl
          refine pure_ (i := 1) (N := some 65) (v := ?_) (a' := ?_) #[true, true, false, false, false, false, false] rfl rfl (by kernel_rfl) (fun _ _ _ h => h) (Or.inl ⟨by rfl, ?_⟩) ?_ ?_
          rotate_left
          · intro w'
            go_simp
            with_reducible rfl
          rotate_left
          · simp only [Act.put, List.setIfInBounds_toArray, List.set_cons_zero, List.set_cons_succ, i64_w, i32_w]
            rfl
          refine pure_ (i := 3) (N := some 67) (v := ?_) (a' := ?_) #[true, true, false, true, false, false, false] rfl rfl (by kernel_rfl) (fun _ _ _ h => h) (Or.inl ⟨by rfl, ?_⟩) ?_ ?_
          rotate_left
          · intro w'
            go_simp
            with_reducible rfl
          rotate_left
          · simp only [Act.put, List.setIfInBounds_toArray, List.set_cons_zero, List.set_cons_succ, i64_w, i32_w]
            rfl
          refine pure_ (i := 4) (N := some 68) (v := ?_) (a' := ?_) #[true, true, false, true, true, false, false] rfl rfl (by kernel_rfl) (fun _ _ _ h => h) (Or.inl ⟨by rfl, ?_⟩) ?_ ?_
          rotate_left
          · intro w'
            go_simp
            with_reducible rfl
          rotate_left
          · simp only [Act.put, List.setIfInBounds_toArray, List.set_cons_zero, List.set_cons_succ, i64_w, i32_w]
            rfl
          refine take_ (i := 2) (N := some 66) (v := ?_) (a' := ?_) #[true, true, true, true, true, false, false] rfl rfl (by kernel_rfl) (fun _ _ _ h => h) (Or.inl ⟨by rfl, ?_⟩) hHeld ?_ ?_
          rotate_left
          · rintro w' ⟨s0, s1, s2, s3, s4, s5⟩
            go_simp
            with_reducible rfl
          rotate_left
          · simp only [Act.put, List.setIfInBounds_toArray, List.set_cons_zero, List.set_cons_succ, i64_w, i32_w]
            rfl
          refine pure_ (i := 5) (N := some 69) (v := ?_) (a' := ?_) #[true, true, true, true, true, true, false] rfl rfl (by kernel_rfl) (fun _ _ _ h => h) (Or.inl ⟨by rfl, ?_⟩) ?_ ?_
          rotate_left
          · intro w'
            go_simp
            with_reducible rfl
          rotate_left
          · simp only [Act.put, List.setIfInBounds_toArray, List.set_cons_zero, List.set_cons_succ, i64_w, i32_w]
            rfl
          refine last_ (i := 6) (N := none) #[true, true, true, true, true, true, true] rfl rfl (by kernel_rfl) (by decide) (fun K hK => ?_)
          have z0 := C4.out.blk.c0; have z1 := C4.out.blk.c1; have z2 := C4.out.blk.c2; have z3 := C4.out.blk.c3; have z4 := C4.out.blk.c4; have z5 := C4.out.blk.c5; have y := blk_frozen C4.out.blk
          refine skip_ (w1 := ?_) (by rfl) rfl ?_ ?_
          rotate_left
          · go_simp
            rfl
          obtain ⟨w6, hw9, hB9, F9⟩ := C4.out.blk.end0 (.slice A5 x.f0.length k5) (.slice A8 x.f3.length k8) x
          rw [← hw9]
          clear hw9 z0 z1 z2 z3 z4 z5 y
          refine hK.out _ _ ?_
          clear hK K
          refine done_ (by kernel_rfl) ?_

          have C6 := Lib.hid (C4.out.set0 F9 hB9 O4.out I4.out)
          have gne : ∀ k, w2.heap.size ≤ k → k ≠ g := fun k hk e => by have := heap_lt C.out.blk; omega
          have V6 := Lib.hid (Kd.R_step V4.out (fun k hk hlt => F9.same k hlt (gne k hk)))
          clear C4 O4 I4 V4 Z4 F9 hB9 gne hHeld
          go_wp2_with fail
          replace C6 := Lib.hid (C6.out.below (below_drew (Below.refl _ _))); replace V6 := Lib.hid (Kd.R_drew V6.out)
          refine start_ (n := 14) (S := fun w' => w'.cell? ⟨g, 14, none⟩ = some p0) (ds := [13]) #[false, false, false, false, false, false, false, false, false, false, false, false, false, false] (by kernel_rfl) rfl rfl (C6.out.blk.c14) (fun hHeld => ?_)
          generalize w6.drew = w7 at C6 V6 hHeld ⊢
          refine pure_ (i := 0) (N := some 70) (v := ?_) (a' := ?_) #[true, false, false, false, false, false, false, false, false, false, false, false, false, false] rfl rfl (by kernel_rfl) (fun _ _ _ h => h) (Or.inl ⟨by rfl, ?_⟩) ?_ ?_
          rotate_left
          · intro w'
            go_simp
            with_reducible rfl
          rotate_left
          · simp only [Act.put, List.setIfInBounds_toArray, List.set_cons_zero, List.set_cons_succ, i64_w, i32_w]
            rfl
          refine pure_ (i := 1) (N := some 71) (v := ?_) (a' := ?_) #[true, true, false, false, false, false, false, false, false, false, false, false, false, false] rfl rfl (by kernel_rfl) (fun _ _ _ h => h) (Or.inl ⟨by rfl, ?_⟩) ?_ ?_
          rotate_left
          · intro w'
            go_simp
            with_reducible rfl
          rotate_left
          · simp only [Act.put, List.setIfInBounds_toArray, List.set_cons_zero, List.set_cons_succ, i64_w, i32_w]
            rfl
          refine pure_ (i := 2) (N := some 72) (v := ?_) (a' := ?_) #[true, true, true, false, false, false, false, false, false, false, false, false, false, false] rfl rfl (by kernel_rfl) (fun _ _ _ h => h) (Or.inl ⟨by rfl, ?_⟩) ?_ ?_
          rotate_left
          · intro w'
            go_simp
            with_reducible rfl
          rotate_left
          · simp only [Act.put, List.setIfInBounds_toArray, List.set_cons_zero, List.set_cons_succ, i64_w, i32_w]
            rfl
          refine pure_ (i := 3) (N := some 73) (v := ?_) (a' := ?_) #[true, true, true, true, false, false, false, false, false, false, false, false, false, false] rfl rfl (by kernel_rfl) (fun _ _ _ h => h) (Or.inl ⟨by rfl, ?_⟩) ?_ ?_
          rotate_left
          · intro w'
            go_simp
            with_reducible rfl
          rotate_left
          · simp only [Act.put, List.setIfInBounds_toArray, List.set_cons_zero, List.set_cons_succ, i64_w, i32_w]
            rfl
          refine pure_ (i := 4) (N := some 74) (v := ?_) (a' := ?_) #[true, true, true, true, true, false, false, false, false, false, false, false, false, false] rfl rfl (by kernel_rfl) (fun _ _ _ h => h) (Or.inl ⟨by rfl, ?_⟩) ?_ ?_
          rotate_left
          · intro w'
            go_simp
            with_reducible rfl
          rotate_left
          · simp only [Act.put, List.setIfInBounds_toArray, List.set_cons_zero, List.set_cons_succ, i64_w, i32_w]
            rfl
          refine pure_ (i := 5) (N := some 75) (v := ?_) (a' := ?_) #[true, true, true, true, true, true, false, false, false, false, false, false, false, false] rfl rfl (by kernel_rfl) (fun _ _ _ h => h) (Or.inl ⟨by rfl, ?_⟩) ?_ ?_
          rotate_left
          · intro w'
            go_simp
            with_reducible rfl
          rotate_left
          · simp only [Act.put, List.setIfInBounds_toArray, List.set_cons_zero, List.set_cons_succ, i64_w, i32_w]
            rfl
          refine pure_ (i := 6) (N := some 76) (v := ?_) (a' := ?_) #[true, true, true, true, true, true, true, false, false, false, false, false, false, false] rfl rfl (by kernel_rfl) (fun _ _ _ h => h) (Or.inl ⟨by rfl, ?_⟩) ?_ ?_
          rotate_left
          · intro w'
            go_simp
            with_reducible rfl
          rotate_left
          · simp only [Act.put, List.setIfInBounds_toArray, List.set_cons_zero, List.set_cons_succ, i64_w, i32_w]
            rfl
          refine pure_ (i := 8) (N := some 78) (v := ?_) (a' := ?_) #[true, true, true, true, true, true, true, false, true, false, false, false, false, false] rfl rfl (by kernel_rfl) (fun _ _ _ h => h) (Or.inl ⟨by rfl, ?_⟩) ?_ ?_
          rotate_left
          · intro w'
            go_simp
            with_reducible rfl
          rotate_left
          · simp only [Act.put, List.setIfInBounds_toArray, List.set_cons_zero, List.set_cons_succ, i64_w, i32_w]
            rfl
          refine pure_ (i := 10) (N := some 80) (v := ?_) (a' := ?_) #[true, true, true, true, true, true, true, false, true, false, true, false, false, false] rfl rfl (by kernel_rfl) (fun _ _ _ h => h) (Or.inl ⟨by rfl, ?_⟩) ?_ ?_
          rotate_left
          · intro w'
            go_simp
            with_reducible rfl
          rotate_left
          · simp only [Act.put, List.setIfInBounds_toArray, List.set_cons_zero, List.set_cons_succ, i64_w, i32_w]
            rfl
          refine pure_ (i := 11) (N := some 81) (v := ?_) (a' := ?_) #[true, true, true, true, true, true, true, false, true, false, true, true, false, false] rfl rfl (by kernel_rfl) (fun _ _ _ h => h) (Or.inl ⟨by rfl, ?_⟩) ?_ ?_
          rotate_left
          · intro w'
            go_simp
            with_reducible rfl
          rotate_left
          · simp only [Act.put, List.setIfInBounds_toArray, List.set_cons_zero, List.set_cons_succ, i64_w, i32_w]
            rfl
          refine take_ (i := 7) (N := some 77) (v := ?_) (a' := ?_) #[true, true, true, true, true, true, true, true, true, false, true, true, false, false] rfl rfl (by kernel_rfl) (fun _ _ _ h => h) (Or.inl ⟨by rfl, ?_⟩) hHeld ?_ ?_
          rotate_left
          · intro w' s0
            go_simp
            with_reducible rfl
          rotate_left
          · simp only [Act.put, List.setIfInBounds_toArray, List.set_cons_zero, List.set_cons_succ, i64_w, i32_w]
            rfl
          refine one_ (i := 9) (N := some 79) #[true, true, true, true, true, true, true, true, true, true, true, true, false, false] rfl rfl (by kernel_rfl) (by decide) (fun K hK => ?_)
          have hrr := (Kd.R_reads' V6.out).2.2
          refine Kd.R_append_rows_step (Rr := k39.K w7) k39 (w0 := w) w.heap.size (by rfl) (.tmp 77) (.tmp 78) 28 39 (.agg #[(.int .i64 0), (.int .i64 0), (.int .i64 0), (.string ⟨#[]⟩), (.int .i64 0), (.int .i64 0), (.int .i64 0), (.int .i64 0)]) 72 (by rfl) Try.underlying28 info39 rfl (by decide) (by decide) p0 r0 q A6 q.length c6 (fun k => k ≠ g ∧ some k ≠ w0.ownBlock ∧ some k ≠ w1.ownBlock ∧ some k ≠ p1.ownBlock) (fun _ => False) (by rfl) (by rfl) C6.out.pp0 hrr (fun y cs h => k39_open h ▸ k39_mkM _ _ _ y) (fun _ h => h.elim) (fun k hk => ⟨(C6.out.fresh hk).1, (C6.out.fresh hk).2.1, (C6.out.fresh hk).2.2.1, (C6.out.fresh hk).2.2.2.2⟩) C6.out.low C6.out.low.size (off_sz (by have := S0.out.2; have := HN.out; omega) (by have := HQ4.out; omega)) ?_
          intro v8 w8 hR8 hb8 hg8 hat8
          obtain ⟨A9, k9, hv8⟩ := Kd.R_slice hR8
          subst hv8
          have hlen : (r0 ++ q).length = r0.length + q.length := List.length_append
          simp only [hlen] at hR8 hg8 hat8 ⊢
          clear hlen
          refine hK.out _ _ ((show ChB w8 g _ _ _ _ _ _ w0 w1 p0 p1 now from blk_grown C6.out.blk hg8 (fun e => (C6.out.pp0.1 g e.symm).1 rfl)).c14) (fun hHeld => ?_)
          clear hK K
          refine norm_ (a' := ?_) ?_ ?_
          rotate_left
          · show Act.put _ (some 79) _ = _
            simp only [Act.put, List.setIfInBounds_toArray, List.set_cons_zero, List.set_cons_succ, i64_w, i32_w]
            rfl
          refine pure_ (i := 12) (N := some 82) (v := ?_) (a' := ?_) #[true, true, true, true, true, true, true, true, true, true, true, true, true, false] rfl rfl (by kernel_rfl) (fun _ _ _ h => h) (Or.inl ⟨by rfl, ?_⟩) ?_ ?_
          rotate_left
          · intro w'
            go_simp
            with_reducible rfl
          rotate_left
          · simp only [Act.put, List.setIfInBounds_toArray, List.set_cons_zero, List.set_cons_succ, i64_w, i32_w]
            rfl
          refine last_ (i := 13) (N := none) #[true, true, true, true, true, true, true, true, true, true, true, true, true, true] rfl rfl (by kernel_rfl) (by decide) (fun K hK => ?_)
          have hblk8 : ChB w8 g _ _ _ _ _ _ w0 w1 p0 p1 now := blk_grown C6.out.blk hg8 (fun e => (C6.out.pp0.1 g e.symm).1 rfl)
          have q1 := hblk8.c14; have q2 := blk_frozen hblk8 14
          refine skip_ (w1 := ?_) (by rfl) rfl ?_ ?_
          rotate_left
          · go_simp
            rfl
          refine hK.out _ _ ?_
          clear hK K
          refine done_ (by kernel_rfl) ?_

          have C9 := Lib.hid (C6.out.off0 hb8 hg8 hat8 hR8)
          clear hR8 hb8 hg8 hat8 hblk8 q1 q2 hrr
          go_wp2_with fail
          go_ret
          exact ⟨rfl, _, _, _, _, _, _, _, _, _, _, _, _, _, _, _, C9.out, I2.out, by have := L0.out; omega, by have := L1.out; omega⟩
  · have he := HEE.out
    obtain ⟨AO, cO, hvo⟩ := Kd.V_slice hC.o1
    obtain ⟨AI, cI, hvi⟩ := Kd.V_slice hC.i1
    obtain ⟨AP, cP, hvp⟩ := Kd.R_slice hC.pp1
    subst hvo hvi
    have C := Lib.hid hC; have HVP := Lib.hid hvp
    clear hC hvp
    go_enter Try.func38, Try.ntmps38
    have O := Lib.hid (OBlk.new W 0 e s t p)
    have o0 := O.out.c0; have o1 := O.out.c1
    go_wp2_with fail
    obtain ⟨tO, htO⟩ : ∃ tO, tO = W.heap.size := ⟨_, rfl⟩
    rw [← htO] at O
    rw [← htO]
    replace C := Lib.hid (C.out.below (below_one W (.cells #[.int .i64 0, .int .i64 e, .int .i64 s, .int .i64 t, .int .i64 p] 75)))
    clear htO o0 o1
    generalize W.alloc (.cells #[.int .i64 0, .int .i64 e, .int .i64 s, .int .i64 t, .int .i64 p] 75) = w2 at C O ⊢
    go_loopw [6, 7] (fun v6 v7 Wc => ∃ q : List S39, v7 = .int .i64 (q.length : Int) ∧ (q.length : Int) ≤ s3 + 1 ∧ Kd.R k39 39 Wc w2.heap.size (fun _ => True) v6 q ∧ Below w2.heap.size w2 Wc) (fun _ i _ => 5 - (intOf i).toNat)
    case atStart => exact ⟨[], rfl, by have := S3R.out; simp only [List.length_nil]; omega, Kd.R_nil _ _ _ _ _, Below.refl _ _⟩
    case round =>
      obtain ⟨q, rfl, hq, hR, hb⟩ := hrel
      obtain ⟨A6, c6, hv6⟩ := Kd.R_slice hR
      have Q := Lib.hid hR; have B := Lib.hid hb; have HQ := Lib.hid hq; have HV6 := Lib.hid hv6
      have Ow := Lib.hid (O.out.below hb); have Cw := Lib.hid (C.out.below hb)
      clear hR hb hq hv6
      have o2 := Ow.out.c2
      have hs3 := HS3.out
      by_cases hlt : (q.length : Int) ≤ s3
      · have cp := Cw.out.blk.c15
        rw [HVP.out] at cp
        have hq4 : q.length ≤ 4 := by have := S3R.out; omega
        have HQ4 := Lib.hid hq4; have HLT := Lib.hid hlt
        clear hq4
        go_wp2_with ((with_reducible refine gate_builtin (b := .append) (xs := #[.tmp 24, .tmp 36]) rfl ?_); at_builtin; refine Kd.R_append_rows (Rr := k39.K (wr.alloc (.cells #[.int .i64 (wrap64 ((r1.length : Int) + (q.length : Int))), .int .i64 0, .int .i64 0, .string ⟨#[]⟩, .int .i64 0, .int .i64 0, .int .i64 0, .int .i64 1] 39))) k39 (w0 := w2) w2.heap.size rfl (.tmp 24) (.tmp 36) 28 39 (.agg #[(.int .i64 0), (.int .i64 0), (.int .i64 0), (.string ⟨#[]⟩), (.int .i64 0), (.int .i64 0), (.int .i64 0), (.int .i64 0)]) 72 rfl Try.underlying28 info39 rfl (by decide) (by decide) u6 q [recN (wrap64 ((r1.length : Int) + (q.length : Int))) 1] (some ⟨wr.heap.size, 0, none⟩) 1 1 (fun _ => True) (fun _ => False) rfl rfl (Kd.R_alloc Q.out _) (C1R wr (recN (wrap64 ((r1.length : Int) + (q.length : Int))) 1)) (fun y cs h => k39_open h ▸ k39_mkM _ _ _ y) (fun _ h => h.elim) (fun _ _ => trivial) (al B.out _) (Nat.le_trans B.out.size (below_one _ _).size) (off_sz (by have := HQ4.out; omega) (by decide)) ?_; intro v3 w5 ho5 hb5 hg5 hat5)
        go_roundw
        case rel =>
          exact ⟨q ++ [recN (wrap64 ((r1.length : Int) + (q.length : Int))) 1], congrArg (Value.int .i64) (snoc_len q _ (by have := HQ4.out; omega)), by have := HLT.out; rw [List.length_append, List.length_singleton]; omega, ho5, hb5⟩
        case measure =>
          have := HQ4.out
          rw [snoc_len q (recN 0 0) (by omega), List.length_append, List.length_singleton]
          simp only [intOf]
          omega
      · have hqs : (q.length : Int) = s3 + 1 := by have := HQ.out; omega
        have hq1 : 1 ≤ q.length := by have := S3R.out; omega
        have hq2 : q.length ≤ 4 := by have := S3R.out; omega
        have HQ4 := Lib.hid hq2
        have hrq := Q.out
        rw [HV6.out] at hrq
        have HQC := Lib.hid (Kd.R_reads' hrq).2.2
        rw [HV6.out]
        rcases I.out.swap.offer (by have := HN.out; omega) q hq1 hq2 with ⟨ho, h64⟩ | ⟨x, ho, hI2⟩
        · have HO := Lib.hid ho; have H64 := Lib.hid h64
          clear hq1 hq2 hqs hrq ho h64
          have d0 := Cw.out.blk.c6
          have d1 := Cw.out.blk.c7
          have d2 := Cw.out.blk.c8
          have d3 := Cw.out.blk.c9
          have d4 := Cw.out.blk.c10
          have d5 := Cw.out.blk.c11
          go_wp2_with fail
          refine (offer_lit HO.out AO cO AI cI A6 c6 _ (Kd.V_reads' Cw.out.o1).2.2 (Kd.V_reads' Cw.out.i1).2.2 (by have := S0.out.1; have := HN.out; omega) HQC.out).mono ?_
          rintro e' w3 ⟨v, rfl, hE, hb3⟩
          obtain ⟨A5, k5, A8, k8, rfl, hO, hI⟩ := six_read hE
          have C3 := Lib.hid (Cw.out.below hb3)
          clear hE hb3 hO hI d0 d1 d2 d3 d4 d5
          have cz := fun o => (C3.out.below (below_one w3 o)).blk.c6
          have hz : ((x1.f0.length : Int) == 64) = true := by have := H64.out; simp only [beq_iff_eq]; omega
          go_wp2_with fail
          go_ret
          exact ⟨rfl, _, _, _, _, _, _, _, _, _, _, _, _, _, _, _, C3.out.below (below_one _ _), I.out.next, by have := L0.out; omega, by have := L1.out; omega⟩
        · have HO := Lib.hid ho; have I2 := Lib.hid hI2
          clear hq1 hq2 hqs hrq ho hI2
          have d0 := Cw.out.blk.c6
          have d1 := Cw.out.blk.c7
          have d2 := Cw.out.blk.c8
          have d3 := Cw.out.blk.c9
          have d4 := Cw.out.blk.c10
          have d5 := Cw.out.blk.c11
          go_wp2_with fail
          refine (offer_lit HO.out AO cO AI cI A6 c6 _ (Kd.V_reads' Cw.out.o1).2.2 (Kd.V_reads' Cw.out.i1).2.2 (by have := S0.out.1; have := HN.out; omega) HQC.out).mono ?_
          rintro e' w3 ⟨v, rfl, hE, hb3⟩
          obtain ⟨A5, k5, A8, k8, rfl, hO, hI⟩ := six_read hE
          have C3 := Lib.hid (Cw.out.below hb3)
          have O3 := Lib.hid (Kd.V_mono hO (fun k hk => Cw.out.fresh hk)); have I3 := Lib.hid (Kd.V_mono hI (fun k hk => Cw.out.fresh hk))
          have Q3 := Lib.hid (Kd.R_mono (Kd.R_bound (Kd.R_below Q.out hb3)) (ok' := fun k => w2.heap.size ≤ k) (fun k hk => hk.2.1))
          rw [HV6.out] at Q3
          clear hE hb3 hO hI d0 d1 d2 d3 d4 d5
          go_wp2_with fail
          obtain ⟨t8, ht8⟩ : ∃ t8, t8 = w3.heap.size := ⟨_, rfl⟩
          have Z4 := Lib.hid (EBlk.new w3 61 (.slice A5 x.f0.length k5) (.slice A8 x.f3.length k8) x.f1 x.f2 x.f5 x.f4)
          rw [← ht8] at Z4
          rw [← ht8]
          have C4 := Lib.hid (C3.out.below (below_one w3 (.cells #[.slice A5 x.f0.length k5, .int .i64 x.f1, .int .i64 x.f2, .slice A8 x.f3.length k8, .bool x.f4, .int .i64 x.f5] 61)))
          have O4 := Lib.hid (Kd.V_below O3.out (below_one w3 (.cells #[.slice A5 x.f0.length k5, .int .i64 x.f1, .int .i64 x.f2, .slice A8 x.f3.length k8, .bool x.f4, .int .i64 x.f5] 61))); have I4 := Lib.hid (Kd.V_below I3.out (below_one w3 (.cells #[.slice A5 x.f0.length k5, .int .i64 x.f1, .int .i64 x.f2, .slice A8 x.f3.length k8, .bool x.f4, .int .i64 x.f5] 61))); have V4 := Lib.hid (Kd.R_below Q3.out (below_one w3 (.cells #[.slice A5 x.f0.length k5, .int .i64 x.f1, .int .i64 x.f2, .slice A8 x.f3.length k8, .bool x.f4, .int .i64 x.f5] 61)))
          clear C3 O3 I3 Q3 ht8
          generalize w3.alloc (.cells #[.slice A5 x.f0.length k5, .int .i64 x.f1, .int .i64 x.f2, .slice A8 x.f3.length k8, .bool x.f4, .int .i64 x.f5] 61) = w4 at C4 O4 I4 V4 Z4 ⊢
          replace C4 := Lib.hid (C4.out.below (below_drew (Below.refl _ _))); replace O4 := Lib.hid (Kd.V_drew O4.out); replace I4 := Lib.hid (Kd.V_drew I4.out); replace V4 := Lib.hid (Kd.R_drew V4.out); replace Z4 := Lib.hid (Z4.out.below (below_drew (Below.refl _ _)))
          refine start_ (n := 7) (S := fun w' => w'.cell? ⟨t8, 0, none⟩ = some (.slice A5 x.f0.length k5) ∧ w'.cell? ⟨t8, 1, none⟩ = some (.int .i64 x.f1) ∧ w'.cell? ⟨t8, 2, none⟩ = some (.int .i64 x.f2) ∧ w'.cell? ⟨t8, 3, none⟩ = some (.slice A8 x.f3.length k8) ∧ w'.cell? ⟨t8, 4, none⟩ = some (.bool x.f4) ∧ w'.cell? ⟨t8, 5, none⟩ = some (.int .i64 x.f5)) (ds := [6]) #[false, false, false, false, false, false, false] (by kernel_rfl) rfl rfl ⟨Z4.out.c0, Z4.out.c1, Z4.out.c2, Z4.out.c3, Z4.out.c4, Z4.out.c5⟩ (fun hHeld => ?_)
          generalize w4.drew = w5 at C4 O4 I4 V4 Z4 hHeld ⊢
          refine pure_ (i := 0) (N := some 64) (v := ?_) (a' := ?_) #[true, false, false, false, false, false, false] rfl rfl (by kernel_rfl) (fun _ _ _ h => h) (Or.inl ⟨by rfl, ?_⟩) ?_ ?_
          rotate_left
          · intro w'
            go_simp
            with_reducible rfl
          rotate_left
          · simp only [Act.put, List.setIfInBounds_toArray, List.set_cons_zero, List.set_cons_succ, i64_w, i32_w]
            rfl
          refine pure_ (i := 1) (N := some 65) (v := ?_) (a' := ?_) #[true, true, false, false, false, false, false] rfl rfl (by kernel_rfl) (fun _ _ _ h => h) (Or.inl ⟨by rfl, ?_⟩) ?_ ?_
          rotate_left
          · intro w'
            go_simp
            with_reducible rfl
          rotate_left
          · simp only [Act.put, List.setIfInBounds_toArray, List.set_cons_zero, List.set_cons_succ, i64_w, i32_w]
            rfl
          refine pure_ (i := 3) (N := some 67) (v := ?_) (a' := ?_) #[true, true, false, true, false, false, false] rfl rfl (by kernel_rfl) (fun _ _ _ h => h) (Or.inl ⟨by rfl, ?_⟩) ?_ ?_
          rotate_left
          · intro w'
            go_simp
            with_reducible rfl
          rotate_left
          · simp only [Act.put, List.setIfInBounds_toArray, List.set_cons_zero, List.set_cons_succ, i64_w, i32_w]
            rfl
          refine pure_ (i := 4) (N := some 68) (v := ?_) (a' := ?_) #[true, true, false, true, true, false, false] rfl rfl (by kernel_rfl) (fun _ _ _ h => h) (Or.inl ⟨by rfl, ?_⟩) ?_ ?_
          rotate_left
          · intro w'
            go_simp
            with_reducible rfl
          rotate_left
          · simp only [Act.put, List.setIfInBounds_toArray, List.set_cons_zero, List.set_cons_succ, i64_w, i32_w]
            rfl
          refine take_ (i := 2) (N := some 66) (v := ?_) (a' := ?_) #[true, true, true, true, true, false, false] rfl rfl (by kernel_rfl) (fun _ _ _ h => h) (Or.inl ⟨by rfl, ?_⟩) hHeld ?_ ?_
          rotate_left
          · rintro w' ⟨s0, s1, s2, s3, s4, s5⟩
            go_simp
            with_reducible rfl
          rotate_left
          · simp only [Act.put, List.setIfInBounds_toArray, List.set_cons_zero, List.set_cons_succ, i64_w, i32_w]
            rfl
          refine pure_ (i := 5) (N := some 69) (v := ?_) (a' := ?_) #[true, true, true, true, true, true, false] rfl rfl (by kernel_rfl) (fun _ _ _ h => h) (Or.inl ⟨by rfl, ?_⟩) ?_ ?_
          rotate_left
          · intro w'
            go_simp
            with_reducible rfl
          rotate_left
          · simp only [Act.put, List.setIfInBounds_toArray, List.set_cons_zero, List.set_cons_succ, i64_w, i32_w]
            rfl
          refine last_ (i := 6) (N := none) #[true, true, true, true, true, true, true] rfl rfl (by kernel_rfl) (by decide) (fun K hK => ?_)
          have z0 := C4.out.blk.c6; have z1 := C4.out.blk.c7; have z2 := C4.out.blk.c8; have z3 := C4.out.blk.c9; have z4 := C4.out.blk.c10; have z5 := C4.out.blk.c11; have y := blk_frozen C4.out.blk
          refine skip_ (w1 := ?_) (by rfl) rfl ?_ ?_
          rotate_left
          · go_simp
            rfl
          obtain ⟨w6, hw9, hB9, F9⟩ := C4.out.blk.end1 (.slice A5 x.f0.length k5) (.slice A8 x.f3.length k8) x
          rw [← hw9]
          clear hw9 z0 z1 z2 z3 z4 z5 y
          refine hK.out _ _ ?_
          clear hK K
          refine done_ (by kernel_rfl) ?_

          have C6 := Lib.hid (C4.out.set1 F9 hB9 O4.out I4.out)
          have gne : ∀ k, w2.heap.size ≤ k → k ≠ g := fun k hk e => by have := heap_lt C.out.blk; omega
          have V6 := Lib.hid (Kd.R_step V4.out (fun k hk hlt => F9.same k hlt (gne k hk)))
          clear C4 O4 I4 V4 Z4 F9 hB9 gne hHeld
          go_wp2_with fail
          replace C6 := Lib.hid (C6.out.below (below_drew (Below.refl _ _))); replace V6 := Lib.hid (Kd.R_drew V6.out)
          refine start_ (n := 14) (S := fun w' => w'.cell? ⟨g, 15, none⟩ = some p1) (ds := [13]) #[false, false, false, false, false, false, false, false, false, false, false, false, false, false] (by kernel_rfl) rfl rfl (C6.out.blk.c15) (fun hHeld => ?_)
          generalize w6.drew = w7 at C6 V6 hHeld ⊢
          refine pure_ (i := 0) (N := some 70) (v := ?_) (a' := ?_) #[true, false, false, false, false, false, false, false, false, false, false, false, false, false] rfl rfl (by kernel_rfl) (fun _ _ _ h => h) (Or.inl ⟨by rfl, ?_⟩) ?_ ?_
          rotate_left
          · intro w'
            go_simp
            with_reducible rfl
          rotate_left
          · simp only [Act.put, List.setIfInBounds_toArray, List.set_cons_zero, List.set_cons_succ, i64_w, i32_w]
            rfl
          refine pure_ (i := 1) (N := some 71) (v := ?_) (a' := ?_) #[true, true, false, false, false, false, false, false, false, false, false, false, false, false] rfl rfl (by kernel_rfl) (fun _ _ _ h => h) (Or.inl ⟨by rfl, ?_⟩) ?_ ?_
          rotate_left
          · intro w'
            go_simp
            with_reducible rfl
          rotate_left
          · simp only [Act.put, List.setIfInBounds_toArray, List.set_cons_zero, List.set_cons_succ, i64_w, i32_w]
            rfl
          refine pure_ (i := 2) (N := some 72) (v := ?_) (a' := ?_) #[true, true, true, false, false, false, false, false, false, false, false, false, false, false] rfl rfl (by kernel_rfl) (fun _ _ _ h => h) (Or.inl ⟨by rfl, ?_⟩) ?_ ?_
          rotate_left
          · intro w'
            go_simp
            with_reducible rfl
          rotate_left
          · simp only [Act.put, List.setIfInBounds_toArray, List.set_cons_zero, List.set_cons_succ, i64_w, i32_w]
            rfl
          refine pure_ (i := 3) (N := some 73) (v := ?_) (a' := ?_) #[true, true, true, true, false, false, false, false, false, false, false, false, false, false] rfl rfl (by kernel_rfl) (fun _ _ _ h => h) (Or.inl ⟨by rfl, ?_⟩) ?_ ?_
          rotate_left
          · intro w'
            go_simp
            with_reducible rfl
          rotate_left
          · simp only [Act.put, List.setIfInBounds_toArray, List.set_cons_zero, List.set_cons_succ, i64_w, i32_w]
            rfl
          refine pure_ (i := 4) (N := some 74) (v := ?_) (a' := ?_) #[true, true, true, true, true, false, false, false, false, false, false, false, false, false] rfl rfl (by kernel_rfl) (fun _ _ _ h => h) (Or.inl ⟨by rfl, ?_⟩) ?_ ?_
          rotate_left
          · intro w'
            go_simp
            with_reducible rfl
          rotate_left
          · simp only [Act.put, List.setIfInBounds_toArray, List.set_cons_zero, List.set_cons_succ, i64_w, i32_w]
            rfl
          refine pure_ (i := 5) (N := some 75) (v := ?_) (a' := ?_) #[true, true, true, true, true, true, false, false, false, false, false, false, false, false] rfl rfl (by kernel_rfl) (fun _ _ _ h => h) (Or.inl ⟨by rfl, ?_⟩) ?_ ?_
          rotate_left
          · intro w'
            go_simp
            with_reducible rfl
          rotate_left
          · simp only [Act.put, List.setIfInBounds_toArray, List.set_cons_zero, List.set_cons_succ, i64_w, i32_w]
            rfl
          refine pure_ (i := 6) (N := some 76) (v := ?_) (a' := ?_) #[true, true, true, true, true, true, true, false, false, false, false, false, false, false] rfl rfl (by kernel_rfl) (fun _ _ _ h => h) (Or.inl ⟨by rfl, ?_⟩) ?_ ?_
          rotate_left
          · intro w'
            go_simp
            with_reducible rfl
          rotate_left
          · simp only [Act.put, List.setIfInBounds_toArray, List.set_cons_zero, List.set_cons_succ, i64_w, i32_w]
            rfl
          refine pure_ (i := 8) (N := some 78) (v := ?_) (a' := ?_) #[true, true, true, true, true, true, true, false, true, false, false, false, false, false] rfl rfl (by kernel_rfl) (fun _ _ _ h => h) (Or.inl ⟨by rfl, ?_⟩) ?_ ?_
          rotate_left
          · intro w'
            go_simp
            with_reducible rfl
          rotate_left
          · simp only [Act.put, List.setIfInBounds_toArray, List.set_cons_zero, List.set_cons_succ, i64_w, i32_w]
            rfl
          refine pure_ (i := 10) (N := some 80) (v := ?_) (a' := ?_) #[true, true, true, true, true, true, true, false, true, false, true, false, false, false] rfl rfl (by kernel_rfl) (fun _ _ _ h => h) (Or.inl ⟨by rfl, ?_⟩) ?_ ?_
          rotate_left
          · intro w'
            go_simp
            with_reducible rfl
          rotate_left
          · simp only [Act.put, List.setIfInBounds_toArray, List.set_cons_zero, List.set_cons_succ, i64_w, i32_w]
            rfl
          refine pure_ (i := 11) (N := some 81) (v := ?_) (a' := ?_) #[true, true, true, true, true, true, true, false, true, false, true, true, false, false] rfl rfl (by kernel_rfl) (fun _ _ _ h => h) (Or.inl ⟨by rfl, ?_⟩) ?_ ?_
          rotate_left
          · intro w'
            go_simp
            with_reducible rfl
          rotate_left
          · simp only [Act.put, List.setIfInBounds_toArray, List.set_cons_zero, List.set_cons_succ, i64_w, i32_w]
            rfl
          refine take_ (i := 7) (N := some 77) (v := ?_) (a' := ?_) #[true, true, true, true, true, true, true, true, true, false, true, true, false, false] rfl rfl (by kernel_rfl) (fun _ _ _ h => h) (Or.inl ⟨by rfl, ?_⟩) hHeld ?_ ?_
          rotate_left
          · intro w' s0
            go_simp
            with_reducible rfl
          rotate_left
          · simp only [Act.put, List.setIfInBounds_toArray, List.set_cons_zero, List.set_cons_succ, i64_w, i32_w]
            rfl
          refine one_ (i := 9) (N := some 79) #[true, true, true, true, true, true, true, true, true, true, true, true, false, false] rfl rfl (by kernel_rfl) (by decide) (fun K hK => ?_)
          have hrr := (Kd.R_reads' V6.out).2.2
          refine Kd.R_append_rows_step (Rr := k39.K w7) k39 (w0 := w) w.heap.size (by rfl) (.tmp 77) (.tmp 78) 28 39 (.agg #[(.int .i64 0), (.int .i64 0), (.int .i64 0), (.string ⟨#[]⟩), (.int .i64 0), (.int .i64 0), (.int .i64 0), (.int .i64 0)]) 72 (by rfl) Try.underlying28 info39 rfl (by decide) (by decide) p1 r1 q A6 q.length c6 (fun k => k ≠ g ∧ some k ≠ w0.ownBlock ∧ some k ≠ w1.ownBlock ∧ some k ≠ p0.ownBlock) (fun _ => False) (by rfl) (by rfl) C6.out.pp1 hrr (fun y cs h => k39_open h ▸ k39_mkM _ _ _ y) (fun _ h => h.elim) (fun k hk => ⟨(C6.out.fresh hk).1, (C6.out.fresh hk).2.1, (C6.out.fresh hk).2.2.1, (C6.out.fresh hk).2.2.2.1⟩) C6.out.low C6.out.low.size (off_sz (by have := S1.out.2; have := HN.out; omega) (by have := HQ4.out; omega)) ?_
          intro v8 w8 hR8 hb8 hg8 hat8
          obtain ⟨A9, k9, hv8⟩ := Kd.R_slice hR8
          subst hv8
          have hlen : (r1 ++ q).length = r1.length + q.length := List.length_append
          simp only [hlen] at hR8 hg8 hat8 ⊢
          clear hlen
          refine hK.out _ _ ((show ChB w8 g _ _ _ _ _ _ w0 w1 p0 p1 now from blk_grown C6.out.blk hg8 (fun e => (C6.out.pp1.1 g e.symm).1 rfl)).c15) (fun hHeld => ?_)
          clear hK K
          refine norm_ (a' := ?_) ?_ ?_
          rotate_left
          · show Act.put _ (some 79) _ = _
            simp only [Act.put, List.setIfInBounds_toArray, List.set_cons_zero, List.set_cons_succ, i64_w, i32_w]
            rfl
          refine pure_ (i := 12) (N := some 82) (v := ?_) (a' := ?_) #[true, true, true, true, true, true, true, true, true, true, true, true, true, false] rfl rfl (by kernel_rfl) (fun _ _ _ h => h) (Or.inl ⟨by rfl, ?_⟩) ?_ ?_
          rotate_left
          · intro w'
            go_simp
            with_reducible rfl
          rotate_left
          · simp only [Act.put, List.setIfInBounds_toArray, List.set_cons_zero, List.set_cons_succ, i64_w, i32_w]
            rfl
          refine last_ (i := 13) (N := none) #[true, true, true, true, true, true, true, true, true, true, true, true, true, true] rfl rfl (by kernel_rfl) (by decide) (fun K hK => ?_)
          have hblk8 : ChB w8 g _ _ _ _ _ _ w0 w1 p0 p1 now := blk_grown C6.out.blk hg8 (fun e => (C6.out.pp1.1 g e.symm).1 rfl)
          have q1 := hblk8.c15; have q2 := blk_frozen hblk8 15
          refine skip_ (w1 := ?_) (by rfl) rfl ?_ ?_
          rotate_left
          · go_simp
            rfl
          refine hK.out _ _ ?_
          clear hK K
          refine done_ (by kernel_rfl) ?_

          have C9 := Lib.hid (C6.out.off1 hb8 hg8 hat8 hR8)
          clear hR8 hb8 hg8 hat8 hblk8 q1 q2 hrr
          go_wp2_with fail
          go_ret
          exact ⟨rfl, _, _, _, _, _, _, _, _, _, _, _, _, _, _, _, C9.out, I2.out.swap, by have := L0.out; omega, by have := L1.out; omega⟩
/-- Every operation keeps the protocol. -/
theorem stepCh (w W : World) (g n : Nat) (hn : n ≤ 1000) (h : ChInv w W g n) (k e s t p : Int) :
    Calls Try.prog 38 #[.pointer (some ⟨g, 0, none⟩), .agg #[.int .i64 k, .int .i64 e, .int .i64 s, .int .i64 t, .int .i64 p]] W fun e W' => e = .returned (.bool true) ∧ ChInv w W' g (n + 1) := by
  by_cases h0 : k = 0
  · subst h0; exact step_zero w W g n hn h e s t p
  · by_cases h1 : k = 1
    · subst h1; exact step_one w W g n hn h e s t p
    · exact step_else w W g n hn h k e s t p h0 h1
end Go.Proofs.Ytbfhohpbldadbaa.P

namespace Go.Proofs.Ytbfhohpbldadbaa.P
open Go.RowKit Go.Proofs.YtbfhohpbldadbaaW.PrintWords Go.Proofs.YtbfhohpbldadbaaW.PrintLast Go.Proofs.YtbfhohpbldadbaaW.PrintMore
set_option linter.unusedVariables false
set_option linter.unusedSimpArgs false
open Go.ChangeShapes Go.WideShapes Go.ChangeAt Go.Joins Go.Deep
set_option linter.unusedVariables false

/-- What can be read of a type is of a kind. -/
def Opens {α : Type} (P : Program) (t : TypeId) (d : Kd α) (ok : α → Prop) : Prop :=
  ∀ {H : Type} {enc : TypeId × Value → H} {w : World} {base : Nat} {spare : Nat → Bool} {held : Bool} {fuel : Nat} {cs : List Value} {x : DataW H × List MemPlace}, DataW.trod enc P w base spare held fuel t cs = some x → ∃ a, d.K w a cs ∧ ok a
theorem opens_int {P : Program} {t : TypeId} {k : IntKind} (ht : P.underlying t = some (.int k)) : Opens P t (Kd.int k) (fun n => (Lit.int k n).wf = true) := by
  intro H enc w base spare held fuel cs x h
  obtain ⟨n, rfl, _, hw⟩ := DataW.trod_int ht h
  exact ⟨n, rfl, hw⟩
theorem choose_list {α : Type} {n : Nat} {p : Nat → α → Prop} (h : ∀ i, i < n → ∃ x, p i x) : ∃ l : List α, l.length = n ∧ ∀ i x, l[i]? = some x → p i x := by
  induction n with
  | zero => exact ⟨[], rfl, fun i x hx => by simp at hx⟩
  | succ n ih =>
    obtain ⟨l, hl, hp⟩ := ih (fun i hi => h i (by omega))
    obtain ⟨y, hy⟩ := h n (by omega)
    refine ⟨l ++ [y], by simp [hl], fun i x hx => ?_⟩
    by_cases hi : i < n
    · rw [List.getElem?_append_left (by omega)] at hx
      exact hp i x hx
    · have hin : i = n := by
        have := (List.getElem?_eq_some_iff.1 hx).1
        simp [hl] at this
        omega
      subst hin
      rw [List.getElem?_append_right (by omega)] at hx
      simp [hl] at hx
      subst hx
      exact hy
theorem opens_slice {α : Type} {P : Program} {t e : TypeId} {d : Kd α} {ok : α → Prop} (ht : P.underlying t = some (.slice e)) (he : Opens P e d ok) (hc : P.cellsOf e = d.sz) : Opens P t (Kd.slice e d) (fun xs => ∀ x ∈ xs, ok x) := by
  intro H enc w base spare held fuel cs x h
  rcases open_slice ht h with ⟨rfl, _⟩ | ⟨a, len, cap, m, n, D, Pl, rfl, _, hl, hm, hmm, _, hx⟩
  · exact ⟨[], ⟨none, 0, rfl, Nat.le_refl _, Kd.C_nil _ _⟩, by simp⟩
  · have hlm : len ≤ m := by rw [hmm]; split <;> omega
    obtain ⟨xs, hlen, hxs⟩ := choose_list (α := α) (n := len) (p := fun i y => ok y ∧ ∃ c, c.length = d.sz ∧ d.K w y c ∧ ∀ j u, c[j]? = some u → w.cell? (a.add (i * d.sz + j)) = some u) (fun i hi => by
      obtain ⟨cs', h1, h2⟩ := hx i (by omega)
      obtain ⟨y, hy, hok⟩ := he h2
      obtain ⟨_, hcl, hat⟩ := World.cells?_some h1
      rw [hc] at hcl hat
      refine ⟨y, hok, cs', hcl, hy, fun j u hj => ?_⟩
      have hjl : j < cs'.length := (List.getElem?_eq_some_iff.1 hj).1
      have := hat j (by omega)
      rw [Go.Deep.add_add] at this
      rw [this, hj])
    refine ⟨xs, ⟨some a, cap, by rw [hlen], by omega, ?_⟩, ?_⟩
    · refine ⟨rfl, by rw [hlen]; unfold maxLen at hm; omega, fun _ => ⟨a, rfl, fun j p hj => ?_⟩⟩
      obtain ⟨_, c, h1, h2, h3⟩ := hxs j p hj
      exact ⟨c, h1, h2, h3⟩
    · intro y hy
      obtain ⟨i, hi⟩ := List.getElem?_of_mem hy
      exact (hxs i y hi).1

theorem own : ownKnob Try.prog.godebug = none := by kernel_rfl
theorem laidOut : laidOutB Try.prog = true := by kernel_rfl
theorem cells3 : Try.prog.cellsOf 3 = 1 := by kernel_rfl
theorem cells9 : Try.prog.cellsOf 9 = 1 := by kernel_rfl
end Go.Proofs.Ytbfhohpbldadbaa.P

namespace Go.Proofs.Ytbfhohpbldadbaa.P
open Go Go.RowKit Go.Proofs.YtbfhohpbldadbaaW.PrintWords Go.Proofs.YtbfhohpbldadbaaW.PrintLast Go.Proofs.YtbfhohpbldadbaaW.PrintMore
set_option linter.unusedVariables false
set_option linter.unusedSimpArgs false
open Go.ChangeShapes Go.WideShapes Go.ChangeAt Go.Joins Go.Deep
/-- An operation on the channel. -/
structure SOp where
  f0 : Int
  f1 : Int
  f2 : Int
  f3 : Int
  f4 : Int
def zOp : SOp := ⟨(0 : Int), (0 : Int), (0 : Int), (0 : Int), (0 : Int)⟩
def kOp : Kd SOp := Kd.iso (Kd.pair (Kd.int .i64) (Kd.pair (Kd.int .i64) (Kd.pair (Kd.int .i64) (Kd.pair (Kd.int .i64) (Kd.int .i64))))) (fun x : SOp => (x.f0, x.f1, x.f2, x.f3, x.f4))
theorem kOp_open {w : World} {x : SOp} {cs : List Value} (h : kOp.K w x cs) : cs = [.int .i64 x.f0, .int .i64 x.f1, .int .i64 x.f2, .int .i64 x.f3, .int .i64 x.f4] := by
  obtain ⟨_, _, rfl, rfl, ⟨_, _, rfl, rfl, ⟨_, _, rfl, rfl, ⟨_, _, rfl, rfl, rfl⟩⟩⟩⟩ := h
  exact rfl
structure AtO (w : World) (a : Addr) (m : SOp) : Prop where
  c0 : w.cell? a = some (.int .i64 m.f0)
  c1 : w.cell? ⟨a.block, a.off + 1, none⟩ = some (.int .i64 m.f1)
  c2 : w.cell? ⟨a.block, a.off + 2, none⟩ = some (.int .i64 m.f2)
  c3 : w.cell? ⟨a.block, a.off + 3, none⟩ = some (.int .i64 m.f3)
  c4 : w.cell? ⟨a.block, a.off + 4, none⟩ = some (.int .i64 m.f4)
theorem O_cell {w : World} {A : Option Addr} {n : Nat} {xs : List SOp} (h : Kd.C kOp w A n xs) (i : Nat) (hi : i < n) (hl : i < xs.length) : ∃ ad, A = some ad ∧ AtO w (ad.add (i * 5)) xs[i] := by
  obtain ⟨ad, c, e, _, hK, hc0⟩ := Kd.C_get h zOp (i : Int) (by omega) (by omega)
  have hc : ∀ j u, c[j]? = some u → w.cell? (ad.add (i * 5 + j)) = some u := fun j u hj => hc0 j u hj
  obtain rfl := kOp_open hK
  have hx : xs.getD (i : Int).toNat zOp = xs[i] := by rw [Int.toNat_natCast]; exact getD_at hl zOp
  rw [hx] at hc
  exact ⟨ad, e, ⟨hc 0 _ rfl, by rw [← add_field _ _ 1 (by omega)]; exact hc 1 _ rfl, by rw [← add_field _ _ 2 (by omega)]; exact hc 2 _ rfl, by rw [← add_field _ _ 3 (by omega)]; exact hc 3 _ rfl, by rw [← add_field _ _ 4 (by omega)]; exact hc 4 _ rfl⟩⟩
set_option maxRecDepth 100000 in
theorem opens_op : Opens Try.prog 75 kOp (fun _ => True) := by
  intro H enc w base spare held fuel cs x h
  obtain ⟨xs, n, _, rfl, hl, hlen, hf⟩ := DataW.trod_struct Try.underlying75 h
  rw [show Try.prog.cellsOf 75 = 5 by kernel_rfl] at hl
  match xs, hlen, cs, hl with
  | [y0, y1, y2, y3, y4], _, [c0, c1, c2, c3, c4], _ =>
    have h0 : DataW.trod enc Try.prog w base spare held n 3 [c0] = some y0 := by have := hf 0 _ rfl; simpa [cells3, cells9] using this
    obtain ⟨a0, e0, _⟩ := opens_int Try.underlying3 h0
    have h1 : DataW.trod enc Try.prog w base spare held n 3 [c1] = some y1 := by have := hf 1 _ rfl; simpa [cells3, cells9] using this
    obtain ⟨a1, e1, _⟩ := opens_int Try.underlying3 h1
    have h2 : DataW.trod enc Try.prog w base spare held n 3 [c2] = some y2 := by have := hf 2 _ rfl; simpa [cells3, cells9] using this
    obtain ⟨a2, e2, _⟩ := opens_int Try.underlying3 h2
    have h3 : DataW.trod enc Try.prog w base spare held n 3 [c3] = some y3 := by have := hf 3 _ rfl; simpa [cells3, cells9] using this
    obtain ⟨a3, e3, _⟩ := opens_int Try.underlying3 h3
    have h4 : DataW.trod enc Try.prog w base spare held n 3 [c4] = some y4 := by have := hf 4 _ rfl; simpa [cells3, cells9] using this
    obtain ⟨a4, e4, _⟩ := opens_int Try.underlying3 h4
    exact ⟨(⟨a0, a1, a2, a3, a4⟩ : SOp), ⟨[c0], [c1, c2, c3, c4], rfl, e0, ⟨[c1], [c2, c3, c4], rfl, e1, ⟨[c2], [c3, c4], rfl, e2, ⟨[c3], [c4], rfl, e3, e4⟩⟩⟩⟩, trivial⟩
set_option maxRecDepth 100000 in
theorem open_ops {H : Type} {enc : TypeId × Value → H} {w : World} {base : Nat} {spare : Nat → Bool} {held : Bool} {r : Reach} {b0 : Nat} {v : Value} {d : DataW H} {p : List MemPlace}
    (hv : Value.okWide Try.prog w r b0 72 v) (h : DataW.Trod enc Try.prog w base spare held 72 v d p) :
    ∃ (A : Option Addr) (c : Nat) (l : List SOp), v = .slice A l.length c ∧ Kd.C kOp w A l.length l ∧ l.length ≤ c := by
  obtain ⟨A1, n1, c1, rfl⟩ := okWide_slice Try.underlying72 hv
  obtain ⟨m, hm⟩ := h
  obtain ⟨l, ⟨A, c, e, hl, hc⟩, _⟩ := opens_slice Try.underlying72 opens_op (by kernel_rfl) hm
  have e1 : Value.slice A1 n1 c1 = .slice A l.length c := by simpa [Value.cells] using e
  exact ⟨A, c, l, e1, hc, hl⟩
end Go.Proofs.Ytbfhohpbldadbaa.P

namespace Go.Proofs.Ytbfhohpbldadbaa.P
open Go Go.RowKit Go.Proofs.YtbfhohpbldadbaaW.PrintWords Go.Proofs.YtbfhohpbldadbaaW.PrintLast Go.Proofs.YtbfhohpbldadbaaW.PrintMore
set_option linter.unusedVariables false
set_option linter.unusedSimpArgs false
theorem pre_calls (A0 : Option Addr) (c0 : Nat) (a : List S39) (A1 : Option Addr) (c1 : Nat) (b : List S39) (w : World) (hr0 : Kd.C k39 w A0 a.length a) (hc0 : a.length ≤ c0) (hr1 : Kd.C k39 w A1 b.length b) (hc1 : b.length ≤ c1) (ha : a.length ≤ 6000) (h : ∃ t, b = a ++ t) :
    Calls Try.prog 40 #[.slice A0 a.length c0, .slice A1 b.length c1] w fun e w' => e = .returned (.bool true) ∧ Below w.heap.size w w' := by
  obtain ⟨t, ht⟩ := h
  refine (crossbarlaw30_prefix.calls 10000 A0 c0 a A1 c1 b true w hr0 hc0 hr1 hc1 (by rw [ht]; exact prefix_ok a t ha 10000 (Nat.le_refl _))).mono ?_
  rintro e w' ⟨h, hd⟩
  exact ⟨h, hd.below⟩
theorem ChInv.low {w W : World} {g n : Nat} (h : ChInv w W g n) : Below w.heap.size w W := by
  obtain ⟨_, _, _, _, _, _, _, _, _, _, _, _, _, _, _, hC, _⟩ := h
  exact hC.low
set_option maxHeartbeats 16000000 in
set_option maxRecDepth 100000 in
theorem law12_walk (A0 : Option Addr) (c0 : Nat) (l : List SOp) (w : World) (hr : Kd.C kOp w A0 l.length l) :
    Calls Try.prog 12 #[.slice A0 l.length c0] w (fun e w' => e = .returned (.bool true) ∧ Below w.heap.size w w') := by
  have HR := Lib.hid hr
  clear hr
  go_enter Try.func12, Try.ntmps12
  go_wp2_with fail
  refine (sane30_calls w).mono ?_
  rintro e w1 ⟨rfl, hb⟩
  have B := Lib.hid hb
  clear hb
  by_cases hlen : (200 : Int) < l.length
  · go_wp2_with fail
    go_ret
    exact ⟨rfl, B.out⟩
  · have HLEN := Lib.hid (show l.length ≤ 200 by omega)
    go_wp2_with fail
    refine (start_calls_ w1).mono ?_
    rintro e w2 ⟨g, rfl, hC⟩
    have CI := Lib.hid (show ChInv w1 w2 g 0 from ⟨_, _, _, _, _, _, _, _, _, _, _, _, _, _, _, hC, Inv.start, by simp, by simp⟩)
    clear hC hlen
    go_wp2_with fail
    go_loopw [4] (fun v4 Wc => ∃ j : Nat, v4 = .int .i64 (j : Int) ∧ j ≤ l.length ∧ ChInv w1 Wc g j) (fun i _ => l.length - (intOf i).toNat)
    case atStart => exact ⟨0, rfl, Nat.zero_le _, CI.out⟩
    case round =>
      obtain ⟨j, rfl, hj, hI⟩ := hrel
      have HJ := Lib.hid hj
      replace CI := Lib.hid hI
      clear hj hI
      by_cases hlt : j < l.length
      · have HLT := Lib.hid hlt
        have hjl : (j : Int) < (l.length : Int) := by omega
        have hj0 : (0 : Int) ≤ (j : Int) := by omega
        obtain ⟨ad, hA, hat⟩ := O_cell (Kd.C_below (Kd.C_below HR.out B.out) CI.out.low) j hlt hlt
        subst hA
        obtain ⟨o, ho⟩ : ∃ o, o = l[j]'hlt := ⟨_, rfl⟩
        rw [← ho] at hat
        have o0 := hat.c0; have o1 := hat.c1; have o2 := hat.c2; have o3 := hat.c3; have o4 := hat.c4
        clear hat ho hlt
        go_wp2_with fail
        refine (stepCh w1 wr g j (by have := HJ.out; have := HLEN.out; omega) CI.out o.f0 o.f1 o.f2 o.f3 o.f4).mono ?_
        rintro e w4 ⟨rfl, vo0, vi0, x0, vo1, vi1, x1, v0, v1, l0, l1, p0, p1, r0, r1, now, hC, hI, hl0, hl1⟩
        obtain ⟨AO0, cO0, hvo0⟩ := Kd.V_slice hC.o0
        obtain ⟨AO1, cO1, hvo1⟩ := Kd.V_slice hC.o1
        subst hvo0 hvo1
        have C := Lib.hid hC; have I := Lib.hid hI; have L0 := Lib.hid hl0; have L1 := Lib.hid hl1
        clear hC hI hl0 hl1 o0 o1 o2 o3 o4 CI
        have d0 := C.out.blk.c0; have d1 := C.out.blk.c1; have d2 := C.out.blk.c2; have d3 := C.out.blk.c3; have d4 := C.out.blk.c4; have d5 := C.out.blk.c5
        have hk0 := I.out.chk (by have := HJ.out; have := HLEN.out; omega)
        have hk1 := I.out.swap.chk (by have := HJ.out; have := HLEN.out; omega)
        have K0 := Lib.hid hk0; have K1 := Lib.hid hk1
        clear hk0 hk1
        go_wp2_with fail
        refine (clCheck_calls AO0 cO0 x0.f0 x0.f1 x0.f2 vi0 x0.f4 x0.f5 w4 (Kd.V_reads' C.out.o0).2.2).mono ?_
        rw [K0.out]
        rintro e w5 ⟨rfl, hb⟩
        replace C := Lib.hid (C.out.below hb)
        clear hb d0 d1 d2 d3 d4 d5
        have d0 := C.out.blk.c6; have d1 := C.out.blk.c7; have d2 := C.out.blk.c8; have d3 := C.out.blk.c9; have d4 := C.out.blk.c10; have d5 := C.out.blk.c11
        go_wp2_with fail
        refine (clCheck_calls AO1 cO1 x1.f0 x1.f1 x1.f2 vi1 x1.f4 x1.f5 w5 (Kd.V_reads' C.out.o1).2.2).mono ?_
        rw [K1.out]
        rintro e w6 ⟨rfl, hb⟩
        replace C := Lib.hid (C.out.below hb)
        clear hb d0 d1 d2 d3 d4 d5 K0 K1
        obtain ⟨AI0, cI0, hvi0⟩ := Kd.V_slice C.out.i0
        obtain ⟨AI1, cI1, hvi1⟩ := Kd.V_slice C.out.i1
        obtain ⟨AP0, cP0, hp0⟩ := Kd.R_slice C.out.pp0
        obtain ⟨AP1, cP1, hp1⟩ := Kd.R_slice C.out.pp1
        subst hvi0 hvi1 hp0 hp1
        obtain ⟨B0, F0, E0, dd0, hB0⟩ := I.out.d0
        obtain ⟨B1, F1, E1, dd1, hB1⟩ := I.out.d1
        have P1 := Lib.hid (show x1.f3.length ≤ 6000 ∧ ∃ t, r0 = x1.f3 ++ t from ⟨by have := (dd0.small hB0).1; have := HJ.out; have := HLEN.out; omega, dd0.pre⟩)
        have P0 := Lib.hid (show x0.f3.length ≤ 6000 ∧ ∃ t, r1 = x0.f3 ++ t from ⟨by have := (dd1.small hB1).1; have := HJ.out; have := HLEN.out; omega, dd1.pre⟩)
        clear dd0 dd1 hB0 hB1 B0 F0 E0 B1 F1 E1
        go_wp2_with fail
        replace C := Lib.hid (C.out.below (below_drew (Below.refl _ _)))
        refine start_ (n := 13) (S := fun w' => w'.cell? ⟨g, 9, none⟩ = some (.slice AI1 x1.f3.length cI1) ∧ w'.cell? ⟨g, 14, none⟩ = some (.slice AP0 r0.length cP0)) (ds := []) #[false, false, false, false, false, false, false, false, false, false, false, false, false] (by kernel_rfl) rfl rfl ⟨C.out.blk.c9, C.out.blk.c14⟩ (fun hHeld => ?_)
        generalize w6.drew = w6d at C hHeld ⊢
        refine pure_ (i := 0) (N := some 44) (v := ?_) (a' := ?_) #[true, false, false, false, false, false, false, false, false, false, false, false, false] rfl rfl (by kernel_rfl) (fun _ _ _ h => h) (Or.inl ⟨by rfl, ?_⟩) ?_ ?_
        rotate_left
        · intro w'
          go_simp
          with_reducible rfl
        rotate_left
        · simp only [Act.put, List.setIfInBounds_toArray, List.set_cons_zero, List.set_cons_succ, i64_w, i32_w]
          rfl
        refine pure_ (i := 1) (N := some 45) (v := ?_) (a' := ?_) #[true, true, false, false, false, false, false, false, false, false, false, false, false] rfl rfl (by kernel_rfl) (fun _ _ _ h => h) (Or.inl ⟨by rfl, ?_⟩) ?_ ?_
        rotate_left
        · intro w'
          go_simp
          with_reducible rfl
        rotate_left
        · simp only [Act.put, List.setIfInBounds_toArray, List.set_cons_zero, List.set_cons_succ, i64_w, i32_w]
          rfl
        refine pure_ (i := 2) (N := some 46) (v := ?_) (a' := ?_) #[true, true, true, false, false, false, false, false, false, false, false, false, false] rfl rfl (by kernel_rfl) (fun _ _ _ h => h) (Or.inl ⟨by rfl, ?_⟩) ?_ ?_
        rotate_left
        · intro w'
          go_simp
          with_reducible rfl
        rotate_left
        · simp only [Act.put, List.setIfInBounds_toArray, List.set_cons_zero, List.set_cons_succ, i64_w, i32_w]
          rfl
        refine pure_ (i := 3) (N := some 47) (v := ?_) (a' := ?_) #[true, true, true, true, false, false, false, false, false, false, false, false, false] rfl rfl (by kernel_rfl) (fun _ _ _ h => h) (Or.inl ⟨by rfl, ?_⟩) ?_ ?_
        rotate_left
        · intro w'
          go_simp
          with_reducible rfl
        rotate_left
        · simp only [Act.put, List.setIfInBounds_toArray, List.set_cons_zero, List.set_cons_succ, i64_w, i32_w]
          rfl
        refine pure_ (i := 4) (N := some 48) (v := ?_) (a' := ?_) #[true, true, true, true, true, false, false, false, false, false, false, false, false] rfl rfl (by kernel_rfl) (fun _ _ _ h => h) (Or.inl ⟨by rfl, ?_⟩) ?_ ?_
        rotate_left
        · intro w'
          go_simp
          with_reducible rfl
        rotate_left
        · simp only [Act.put, List.setIfInBounds_toArray, List.set_cons_zero, List.set_cons_succ, i64_w, i32_w]
          rfl
        refine pure_ (i := 6) (N := some 50) (v := ?_) (a' := ?_) #[true, true, true, true, true, false, true, false, false, false, false, false, false] rfl rfl (by kernel_rfl) (fun _ _ _ h => h) (Or.inl ⟨by rfl, ?_⟩) ?_ ?_
        rotate_left
        · intro w'
          go_simp
          with_reducible rfl
        rotate_left
        · simp only [Act.put, List.setIfInBounds_toArray, List.set_cons_zero, List.set_cons_succ, i64_w, i32_w]
          rfl
        refine pure_ (i := 7) (N := some 51) (v := ?_) (a' := ?_) #[true, true, true, true, true, false, true, true, false, false, false, false, false] rfl rfl (by kernel_rfl) (fun _ _ _ h => h) (Or.inl ⟨by rfl, ?_⟩) ?_ ?_
        rotate_left
        · intro w'
          go_simp
          with_reducible rfl
        rotate_left
        · simp only [Act.put, List.setIfInBounds_toArray, List.set_cons_zero, List.set_cons_succ, i64_w, i32_w]
          rfl
        refine pure_ (i := 8) (N := some 52) (v := ?_) (a' := ?_) #[true, true, true, true, true, false, true, true, true, false, false, false, false] rfl rfl (by kernel_rfl) (fun _ _ _ h => h) (Or.inl ⟨by rfl, ?_⟩) ?_ ?_
        rotate_left
        · intro w'
          go_simp
          with_reducible rfl
        rotate_left
        · simp only [Act.put, List.setIfInBounds_toArray, List.set_cons_zero, List.set_cons_succ, i64_w, i32_w]
          rfl
        refine pure_ (i := 9) (N := some 53) (v := ?_) (a' := ?_) #[true, true, true, true, true, false, true, true, true, true, false, false, false] rfl rfl (by kernel_rfl) (fun _ _ _ h => h) (Or.inl ⟨by rfl, ?_⟩) ?_ ?_
        rotate_left
        · intro w'
          go_simp
          with_reducible rfl
        rotate_left
        · simp only [Act.put, List.setIfInBounds_toArray, List.set_cons_zero, List.set_cons_succ, i64_w, i32_w]
          rfl
        refine take_ (i := 5) (N := some 49) (v := ?_) (a' := ?_) #[true, true, true, true, true, true, true, true, true, true, false, false, false] rfl rfl (by kernel_rfl) (fun _ _ _ h => h) (Or.inl ⟨by rfl, ?_⟩) hHeld ?_ ?_
        rotate_left
        · rintro w' ⟨s0, s1⟩
          go_simp
          with_reducible rfl
        rotate_left
        · simp only [Act.put, List.setIfInBounds_toArray, List.set_cons_zero, List.set_cons_succ, i64_w, i32_w]
          rfl
        refine take_ (i := 10) (N := some 54) (v := ?_) (a' := ?_) #[true, true, true, true, true, true, true, true, true, true, true, false, false] rfl rfl (by kernel_rfl) (fun _ _ _ h => h) (Or.inl ⟨by rfl, ?_⟩) hHeld ?_ ?_
        rotate_left
        · rintro w' ⟨s0, s1⟩
          go_simp
          with_reducible rfl
        rotate_left
        · simp only [Act.put, List.setIfInBounds_toArray, List.set_cons_zero, List.set_cons_succ, i64_w, i32_w]
          rfl
        refine one_ (i := 11) (N := some 55) #[true, true, true, true, true, true, true, true, true, true, true, true, false] rfl rfl (by kernel_rfl) (by decide) (fun K hK => ?_)
        refine goes_ Try.func40 (by kernel_rfl) rfl #[.slice AI1 x1.f3.length cI1, .slice AP0 r0.length cP0] (by rfl) rfl rfl (by simp only [List.map_toArray, List.map_cons, List.map_nil]; rfl) ?_
        with_reducible refine (pre_calls AI1 cI1 x1.f3 AP0 cP0 r0 _ (Kd.V_reads' C.out.i1).2.2 (Kd.V_reads' C.out.i1).2.1 (Kd.R_reads' C.out.pp0).2.2 (Kd.R_reads' C.out.pp0).2.1 P1.out.1 P1.out.2).mono ?_
        rintro e w7 ⟨rfl, hb⟩
        refine ⟨_, rfl, ?_⟩
        replace C := Lib.hid (C.out.below hb)
        clear hb
        refine hK.out _ _ ⟨C.out.blk.c9, C.out.blk.c14⟩ (fun hHeld => ?_)
        clear hK K
        refine norm_ (a' := ?_) ?_ ?_
        rotate_left
        · show Act.put _ (some 55) _ = _
          simp only [Act.put, List.setIfInBounds_toArray, List.set_cons_zero, List.set_cons_succ, i64_w, i32_w]
          rfl
        refine pure_ (i := 12) (N := some 5) (v := ?_) (a' := ?_) #[true, true, true, true, true, true, true, true, true, true, true, true, true] rfl rfl (by kernel_rfl) (fun _ _ _ h => h) (Or.inl ⟨by rfl, ?_⟩) ?_ ?_
        rotate_left
        · intro w'
          go_simp
          with_reducible rfl
        rotate_left
        · simp only [Act.put, List.setIfInBounds_toArray, List.set_cons_zero, List.set_cons_succ, i64_w, i32_w]
          rfl
        refine done_ (by kernel_rfl) ?_

        clear hHeld
        go_wp2_with fail
        replace C := Lib.hid (C.out.below (below_drew (Below.refl _ _)))
        refine start_ (n := 13) (S := fun w' => w'.cell? ⟨g, 3, none⟩ = some (.slice AI0 x0.f3.length cI0) ∧ w'.cell? ⟨g, 15, none⟩ = some (.slice AP1 r1.length cP1)) (ds := []) #[false, false, false, false, false, false, false, false, false, false, false, false, false] (by kernel_rfl) rfl rfl ⟨C.out.blk.c3, C.out.blk.c15⟩ (fun hHeld => ?_)
        generalize w7.drew = w7d at C hHeld ⊢
        refine pure_ (i := 0) (N := some 56) (v := ?_) (a' := ?_) #[true, false, false, false, false, false, false, false, false, false, false, false, false] rfl rfl (by kernel_rfl) (fun _ _ _ h => h) (Or.inl ⟨by rfl, ?_⟩) ?_ ?_
        rotate_left
        · intro w'
          go_simp
          with_reducible rfl
        rotate_left
        · simp only [Act.put, List.setIfInBounds_toArray, List.set_cons_zero, List.set_cons_succ, i64_w, i32_w]
          rfl
        refine pure_ (i := 1) (N := some 57) (v := ?_) (a' := ?_) #[true, true, false, false, false, false, false, false, false, false, false, false, false] rfl rfl (by kernel_rfl) (fun _ _ _ h => h) (Or.inl ⟨by rfl, ?_⟩) ?_ ?_
        rotate_left
        · intro w'
          go_simp
          with_reducible rfl
        rotate_left
        · simp only [Act.put, List.setIfInBounds_toArray, List.set_cons_zero, List.set_cons_succ, i64_w, i32_w]
          rfl
        refine pure_ (i := 2) (N := some 58) (v := ?_) (a' := ?_) #[true, true, true, false, false, false, false, false, false, false, false, false, false] rfl rfl (by kernel_rfl) (fun _ _ _ h => h) (Or.inl ⟨by rfl, ?_⟩) ?_ ?_
        rotate_left
        · intro w'
          go_simp
          with_reducible rfl
        rotate_left
        · simp only [Act.put, List.setIfInBounds_toArray, List.set_cons_zero, List.set_cons_succ, i64_w, i32_w]
          rfl
        refine pure_ (i := 3) (N := some 59) (v := ?_) (a' := ?_) #[true, true, true, true, false, false, false, false, false, false, false, false, false] rfl rfl (by kernel_rfl) (fun _ _ _ h => h) (Or.inl ⟨by rfl, ?_⟩) ?_ ?_
        rotate_left
        · intro w'
          go_simp
          with_reducible rfl
        rotate_left
        · simp only [Act.put, List.setIfInBounds_toArray, List.set_cons_zero, List.set_cons_succ, i64_w, i32_w]
          rfl
        refine pure_ (i := 4) (N := some 60) (v := ?_) (a' := ?_) #[true, true, true, true, true, false, false, false, false, false, false, false, false] rfl rfl (by kernel_rfl) (fun _ _ _ h => h) (Or.inl ⟨by rfl, ?_⟩) ?_ ?_
        rotate_left
        · intro w'
          go_simp
          with_reducible rfl
        rotate_left
        · simp only [Act.put, List.setIfInBounds_toArray, List.set_cons_zero, List.set_cons_succ, i64_w, i32_w]
          rfl
        refine pure_ (i := 6) (N := some 62) (v := ?_) (a' := ?_) #[true, true, true, true, true, false, true, false, false, false, false, false, false] rfl rfl (by kernel_rfl) (fun _ _ _ h => h) (Or.inl ⟨by rfl, ?_⟩) ?_ ?_
        rotate_left
        · intro w'
          go_simp
          with_reducible rfl
        rotate_left
        · simp only [Act.put, List.setIfInBounds_toArray, List.set_cons_zero, List.set_cons_succ, i64_w, i32_w]
          rfl
        refine pure_ (i := 7) (N := some 63) (v := ?_) (a' := ?_) #[true, true, true, true, true, false, true, true, false, false, false, false, false] rfl rfl (by kernel_rfl) (fun _ _ _ h => h) (Or.inl ⟨by rfl, ?_⟩) ?_ ?_
        rotate_left
        · intro w'
          go_simp
          with_reducible rfl
        rotate_left
        · simp only [Act.put, List.setIfInBounds_toArray, List.set_cons_zero, List.set_cons_succ, i64_w, i32_w]
          rfl
        refine pure_ (i := 8) (N := some 64) (v := ?_) (a' := ?_) #[true, true, true, true, true, false, true, true, true, false, false, false, false] rfl rfl (by kernel_rfl) (fun _ _ _ h => h) (Or.inl ⟨by rfl, ?_⟩) ?_ ?_
        rotate_left
        · intro w'
          go_simp
          with_reducible rfl
        rotate_left
        · simp only [Act.put, List.setIfInBounds_toArray, List.set_cons_zero, List.set_cons_succ, i64_w, i32_w]
          rfl
        refine pure_ (i := 9) (N := some 65) (v := ?_) (a' := ?_) #[true, true, true, true, true, false, true, true, true, true, false, false, false] rfl rfl (by kernel_rfl) (fun _ _ _ h => h) (Or.inl ⟨by rfl, ?_⟩) ?_ ?_
        rotate_left
        · intro w'
          go_simp
          with_reducible rfl
        rotate_left
        · simp only [Act.put, List.setIfInBounds_toArray, List.set_cons_zero, List.set_cons_succ, i64_w, i32_w]
          rfl
        refine take_ (i := 5) (N := some 61) (v := ?_) (a' := ?_) #[true, true, true, true, true, true, true, true, true, true, false, false, false] rfl rfl (by kernel_rfl) (fun _ _ _ h => h) (Or.inl ⟨by rfl, ?_⟩) hHeld ?_ ?_
        rotate_left
        · rintro w' ⟨s0, s1⟩
          go_simp
          with_reducible rfl
        rotate_left
        · simp only [Act.put, List.setIfInBounds_toArray, List.set_cons_zero, List.set_cons_succ, i64_w, i32_w]
          rfl
        refine take_ (i := 10) (N := some 66) (v := ?_) (a' := ?_) #[true, true, true, true, true, true, true, true, true, true, true, false, false] rfl rfl (by kernel_rfl) (fun _ _ _ h => h) (Or.inl ⟨by rfl, ?_⟩) hHeld ?_ ?_
        rotate_left
        · rintro w' ⟨s0, s1⟩
          go_simp
          with_reducible rfl
        rotate_left
        · simp only [Act.put, List.setIfInBounds_toArray, List.set_cons_zero, List.set_cons_succ, i64_w, i32_w]
          rfl
        refine one_ (i := 11) (N := some 67) #[true, true, true, true, true, true, true, true, true, true, true, true, false] rfl rfl (by kernel_rfl) (by decide) (fun K hK => ?_)
        refine goes_ Try.func40 (by kernel_rfl) rfl #[.slice AI0 x0.f3.length cI0, .slice AP1 r1.length cP1] (by rfl) rfl rfl (by simp only [List.map_toArray, List.map_cons, List.map_nil]; rfl) ?_
        with_reducible refine (pre_calls AI0 cI0 x0.f3 AP1 cP1 r1 _ (Kd.V_reads' C.out.i0).2.2 (Kd.V_reads' C.out.i0).2.1 (Kd.R_reads' C.out.pp1).2.2 (Kd.R_reads' C.out.pp1).2.1 P0.out.1 P0.out.2).mono ?_
        rintro e w8 ⟨rfl, hb⟩
        refine ⟨_, rfl, ?_⟩
        replace C := Lib.hid (C.out.below hb)
        clear hb
        refine hK.out _ _ ⟨C.out.blk.c3, C.out.blk.c15⟩ (fun hHeld => ?_)
        clear hK K
        refine norm_ (a' := ?_) ?_ ?_
        rotate_left
        · show Act.put _ (some 67) _ = _
          simp only [Act.put, List.setIfInBounds_toArray, List.set_cons_zero, List.set_cons_succ, i64_w, i32_w]
          rfl
        refine pure_ (i := 12) (N := some 6) (v := ?_) (a' := ?_) #[true, true, true, true, true, true, true, true, true, true, true, true, true] rfl rfl (by kernel_rfl) (fun _ _ _ h => h) (Or.inl ⟨by rfl, ?_⟩) ?_ ?_
        rotate_left
        · intro w'
          go_simp
          with_reducible rfl
        rotate_left
        · simp only [Act.put, List.setIfInBounds_toArray, List.set_cons_zero, List.set_cons_succ, i64_w, i32_w]
          rfl
        refine done_ (by kernel_rfl) ?_

        clear hHeld
        go_wp2_with fail
        go_roundw
        case rel =>
          exact ⟨j + 1, rfl, HLT.out, ⟨_, _, _, _, _, _, _, _, _, _, _, _, _, _, _, C.out, I.out, L0.out, L1.out⟩⟩
        case measure =>
          have := HLT.out
          simp only [intOf]
          omega
      · have hjl : ¬ ((j : Int) < (l.length : Int)) := by omega
        go_wp2_with fail
        go_ret
        exact ⟨rfl, bb B.out CI.out.low⟩
end Go.Proofs.Ytbfhohpbldadbaa.P

