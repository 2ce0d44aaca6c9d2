import Derived.Test.YtfjboaanpiceaaaL4a
import Derived.Test.YtfjboaanpiceaaaRo
import Derived.Deep.LoopGhost
import Derived.Deep.RegionWith
import Derived.Deep.DeepCutAuto
namespace Go.Proofs.Ytfjboaanpiceaaa.P
open Go.RowKit Go.Proofs.YtfjboaanpiceaaaW.PrintWords Go.Proofs.YtfjboaanpiceaaaW.PrintLast Go.Proofs.YtfjboaanpiceaaaW.PrintMore
set_option linter.unusedVariables false
set_option linter.unusedSimpArgs false
open Go.ChangeShapes Go.WideShapes Go.ChangeAt Go.Joins Go.Deep
def kOp : Kd (Int × Int) := Kd.pair (Kd.int .i64) (Kd.int .i64)
theorem O_cell {w : World} {A : Option Addr} {n : Nat} {xs : List (Int × Int)} (h : Kd.C kOp w A n xs) (i : Nat) (hi : i < n) : ∃ (ad : Addr) (x : Int × Int), A = some ad ∧ w.cell? (ad.add (i * 2)) = some (.int .i64 x.1) ∧ w.cell? ⟨(ad.add (i * 2)).block, (ad.add (i * 2)).off + 1, none⟩ = some (.int .i64 x.2) := by
  obtain ⟨h1, h2, h3⟩ := h
  obtain ⟨ad, hA, hc⟩ := h3 (by omega)
  obtain ⟨p, hp⟩ : ∃ p, xs[i]? = some p := ⟨_, List.getElem?_eq_getElem (by omega)⟩
  obtain ⟨c, hl, hk, hu⟩ := hc i p hp
  obtain ⟨k0, k1, rfl, e0, e1⟩ := hk
  have e0' : k0 = [.int .i64 p.1] := e0
  have e1' : k1 = [.int .i64 p.2] := e1
  rw [e0', e1'] at hu
  have g0 : w.cell? (ad.add (i * 2 + 0)) = some (.int .i64 p.1) := hu 0 _ rfl
  have g1 : w.cell? (ad.add (i * 2 + 1)) = some (.int .i64 p.2) := hu 1 _ rfl
  refine ⟨ad, p, hA, g0, ?_⟩
  have e : ad.add (i * 2 + 1) = ⟨(ad.add (i * 2)).block, (ad.add (i * 2)).off + 1, none⟩ := by
    unfold Addr.add
    by_cases hz : i * 2 = 0
    · rw [if_neg (by omega), if_pos hz, hz]
    · rw [if_neg (by omega), if_neg hz]
      rfl
  rw [← e]
  exact g1
theorem opens_op : Opens Try.prog 41 kOp (fun _ => True) := by
  intro H enc w base spare held fuel cs x h
  obtain ⟨y0, y1, n, rfl, hl, h0, h1⟩ := trod_struct2 Try.underlying41 h
  rw [show Try.prog.cellsOf 41 = 2 by kernel_rfl] at hl
  match cs, hl with
  | [c0, c1], _ =>
    rw [show Try.prog.cellsOf 3 = 1 from cells3] at h0 h1
    obtain ⟨a0, e0, _⟩ := opens_int Try.underlying3 h0
    obtain ⟨a1, e1, _⟩ := opens_int Try.underlying3 h1
    exact ⟨(a0, a1), ⟨[c0], [c1], rfl, e0, e1⟩, trivial⟩
theorem open_ops {H : Type} {enc : TypeId × Value → H} {w : World} {base : Nat} {spare : Nat → Bool} {held : Bool} {r : Reach} {b0 : Nat} {v : Value} {d : DataW H} {p : List MemPlace}
    (hv : Value.okWide Try.prog w r b0 38 v) (h : DataW.Trod enc Try.prog w base spare held 38 v d p) :
    ∃ (A : Option Addr) (c : Nat) (l : List (Int × Int)), v = .slice A l.length c ∧ Kd.C kOp w A l.length l := by
  obtain ⟨A1, n1, c1, rfl⟩ := okWide_slice Try.underlying38 hv
  obtain ⟨m, hm⟩ := h
  obtain ⟨l, ⟨A, c, e, hl, hc⟩, _⟩ := opens_slice Try.underlying38 opens_op (by kernel_rfl) hm
  have e1 : Value.slice A1 n1 c1 = .slice A l.length c := by simpa [Value.cells] using e
  exact ⟨A, c, l, e1, hc⟩
set_option maxHeartbeats 1000000 in
theorem law4_big (A : Option Addr) (c n : Nat) (hs : ¬ n ≤ 300) (hm : n ≤ 9223372036854775807) (w : World) : Calls Try.prog 4 #[.slice A n c] w (LawPost w) := by
  have hl : (decide ((300 : Int) < n)) = true := by simp; omega
  go_enter Try.func4, Try.ntmps4
  go_wp2_with fail
  refine (sane_calls _).mono ?_
  rintro e w1 ⟨rfl, hb⟩
  have B1 := Lib.hid hb
  clear hb
  go_wp2_with fail
  go_ret
  exact ⟨rfl, B1.out⟩
section
variable {w2 wr W1 : World} {a a' : Int} {x1 x2 x3 x4 x5 x6 y1 y2 y3 y4 y5 y6 : Nat} {u0 u1 v0 v1 : Bool} {m0 m1 n0 n1 : Int} {r r' : Bool}
theorem rel_new (S : St w2 wr a x1 x2 x3 x4 x5 x6 u0 u1 m0 m1 r) (hb : Below wr.heap.size wr W1) (t : Two W1 y1 y2 y3 y4 y5 y6 v0 v1 n0 n1) :
    w2.heap.size < W1.heap.size ∧ DBlk (W1.alloc (.cells #[.int .i64 a', .slice (some ⟨y1, y2, none⟩) 2 y3, .slice (some ⟨y4, y5, none⟩) 2 y6, .bool r'] 25)) W1.heap.size a' (.slice (some ⟨y1, y2, none⟩) 2 y3) (.slice (some ⟨y4, y5, none⟩) 2 y6) r' ∧ Two (W1.alloc (.cells #[.int .i64 a', .slice (some ⟨y1, y2, none⟩) 2 y3, .slice (some ⟨y4, y5, none⟩) 2 y6, .bool r'] 25)) y1 y2 y3 y4 y5 y6 v0 v1 n0 n1 ∧ St w2 (W1.alloc (.cells #[.int .i64 a', .slice (some ⟨y1, y2, none⟩) 2 y3, .slice (some ⟨y4, y5, none⟩) 2 y6, .bool r'] 25)) a x1 x2 x3 x4 x5 x6 u0 u1 m0 m1 r :=
  ⟨Nat.lt_of_lt_of_le S.d.lt hb.size, DBlk.new _, t.below (below_one _ _), (S.below hb).below (below_one _ _)⟩
theorem rel_set (S : St w2 wr a x1 x2 x3 x4 x5 x6 u0 u1 m0 m1 r) (hb : Below wr.heap.size wr W1) (t : Two W1 y1 y2 y3 y4 y5 y6 v0 v1 n0 n1) (X : DBlk W1 wr.heap.size 0 (.slice none 0 0) (.slice none 0 0) false) :
    w2.heap.size < wr.heap.size ∧ DBlk ((((W1.setCell ⟨wr.heap.size, 0, none⟩ (.int .i64 a')).setCell ⟨wr.heap.size, 1, none⟩ (.slice (some ⟨y1, y2, none⟩) 2 y3)).setCell ⟨wr.heap.size, 2, none⟩ (.slice (some ⟨y4, y5, none⟩) 2 y6)).setCell ⟨wr.heap.size, 3, none⟩ (.bool r')) wr.heap.size a' (.slice (some ⟨y1, y2, none⟩) 2 y3) (.slice (some ⟨y4, y5, none⟩) 2 y6) r' ∧ Two ((((W1.setCell ⟨wr.heap.size, 0, none⟩ (.int .i64 a')).setCell ⟨wr.heap.size, 1, none⟩ (.slice (some ⟨y1, y2, none⟩) 2 y3)).setCell ⟨wr.heap.size, 2, none⟩ (.slice (some ⟨y4, y5, none⟩) 2 y6)).setCell ⟨wr.heap.size, 3, none⟩ (.bool r')) y1 y2 y3 y4 y5 y6 v0 v1 n0 n1 ∧ St w2 ((((W1.setCell ⟨wr.heap.size, 0, none⟩ (.int .i64 a')).setCell ⟨wr.heap.size, 1, none⟩ (.slice (some ⟨y1, y2, none⟩) 2 y3)).setCell ⟨wr.heap.size, 2, none⟩ (.slice (some ⟨y4, y5, none⟩) 2 y6)).setCell ⟨wr.heap.size, 3, none⟩ (.bool r')) a x1 x2 x3 x4 x5 x6 u0 u1 m0 m1 r := by
  have S1 := S.below hb
  have hlt := S.d.lt
  obtain ⟨h1, h2⟩ := t.far X
  obtain ⟨h3, h4⟩ := S1.t.far X
  have hne : w2.heap.size ≠ wr.heap.size := by omega
  exact ⟨hlt, X.set4 _ _ _ _, (((t.set h1 h2 _ _).set h1 h2 _ _).set h1 h2 _ _).set h1 h2 _ _,
    (((S1.d.far hne _).far hne _).far hne _).far hne _, (((S1.t.set h3 h4 _ _).set h3 h4 _ _).set h3 h4 _ _).set h3 h4 _ _,
    Below.setCell (Below.setCell (Below.setCell (Below.setCell S1.b (by simp; omega) _) (by simp; omega) _) (by simp; omega) _) (by simp; omega) _⟩
end
set_option maxHeartbeats 8000000 in
set_option maxRecDepth 100000 in
theorem law4_small (A : Option Addr) (c : Nat) (l : List (Int × Int)) (hs : l.length ≤ 300) (w : World) (hr : Kd.C kOp w A l.length l) : Calls Try.prog 4 #[.slice A l.length c] w (LawPost w) := by
  have hl : (decide ((300 : Int) < l.length)) = false := by simp; omega
  have HR := Lib.hid hr
  clear hr
  go_enter Try.func4, Try.ntmps4
  go_wp2_with fail
  refine (sane_calls _).mono ?_
  rintro e w1 ⟨rfl, hb⟩
  have B1 := Lib.hid hb
  clear hb
  go_wp2_with fail
  refine (new_two _).mono ?_
  rintro e w2 ⟨b1, o1, c1, b2, o2, c2, rfl, t, hb2⟩
  have B2 := Lib.hid (bb B1.out hb2)
  have T0 := Lib.hid t
  clear t hb2
  go_wp2_with fail
  go_loopw [4, 5] (fun p i W => ∃ (k : Nat) (n a : Int) (x1 x2 x3 x4 x5 x6 : Nat) (u0 u1 : Bool) (m0 m1 : Int) (r : Bool), p = .int .i64 n ∧ i = .int .i64 k ∧ k ≤ l.length ∧ 0 ≤ n ∧ n ≤ k ∧ St w2 W a x1 x2 x3 x4 x5 x6 u0 u1 m0 m1 r ∧ InvB n a u0 u1 m0 m1 r) (fun _ i _ => l.length - (intOf i).toNat)
  case atStart => exact ⟨0, 0, 0, b1, o1, c1, b2, o2, c2, true, true, 0, 0, false, rfl, rfl, Nat.zero_le _, by omega, by omega, St.new w2 T0.out, by simp [InvB, validB, oddB, knownB]⟩
  case round =>
    obtain ⟨k, n, a, x1, x2, x3, x4, x5, x6, u0, u1, m0, m1, r, rfl, rfl, hk, n0, nk, S0, hi⟩ := hrel
    have S := Lib.hid S0
    have HI := Lib.hid hi
    clear S0 hi hl
    by_cases hlt : k < l.length
    · obtain ⟨ad, x, rfl, h1, h2⟩ := O_cell (Kd.C_below HR.out (bb B2.out S.out.b)) k hlt
      have s0 := S.out.d.c0; have s1 := S.out.d.c1; have s2 := S.out.d.c2; have s3 := S.out.d.c3
      have s0' := fun o => (S.out.d.alloc o).c0; have s1' := fun o => (S.out.d.alloc o).c1; have s2' := fun o => (S.out.d.alloc o).c2; have s3' := fun o => (S.out.d.alloc o).c3
      have h1' := fun o => pw_cell_below (below_one wr o) h1
      have h2' := fun o => pw_cell_below (below_one wr o) h2
      go_wp2_with fail
      have HN := Lib.hid (show n ≤ 300 by omega)
      go_cut [6, 7, 8] (fun g dd cc wx => ∃ (gx : Nat) (a' : Int) (y1 y2 y3 y4 y5 y6 : Nat) (v0 v1 : Bool) (n0' n1' : Int) (r' d : Bool) (c : Int), g = .pointer (some ⟨gx, 0, none⟩) ∧ dd = .bool d ∧ cc = .int .i64 c ∧ (c = 0 ∨ c = 330) ∧ NextB n d a' v0 v1 n0' n1' r' ∧ w2.heap.size < gx ∧ DBlk wx gx a' (.slice (some ⟨y1, y2, none⟩) 2 y3) (.slice (some ⟨y4, y5, none⟩) 2 y6) r' ∧ Two wx y1 y2 y3 y4 y5 y6 v0 v1 n0' n1' ∧ St w2 wx a x1 x2 x3 x4 x5 x6 u0 u1 m0 m1 r)
      case first =>
        go_region_with (go_at_call 25; refine (step_calls n a _ _ _ _ _ _ u0 u1 m0 m1 r x.1 x.2 _ (S.out.t.below (by first | exact pw_below_drewN (below_one _ _) _ | exact below_drew (below_one _ _) | exact below_one _ _ | exact below_drew (Below.refl _ _) | exact pw_below_drewN (Below.refl _ _) _)) HI.out HN.out).mono ?_; rintro e W1 ⟨a', v0, v1, n0', n1', r', d, c, ⟨y1, y2, y3, y4, y5, y6, rfl, t, hb⟩, hc, hx⟩; have hb' : Below wr.heap.size wr W1 := bb (by first | exact pw_below_drewN (below_one _ _) _ | exact below_drew (below_one _ _) | exact below_one _ _ | exact below_drew (Below.refl _ _) | exact pw_below_drewN (Below.refl _ _) _) hb; try (have X1 : DBlk W1 wr.heap.size 0 (.slice none 0 0) (.slice none 0 0) false := (hb.block wr.heap.size (by simp)).trans (heap_alloc_new wr _); have xf := X1.fr; have q0 := X1.c0; have q1 := X1.c1; have q2 := X1.c2; have q3 := X1.c3))
        all_goals (go_wp2_with fail; go_meet)
        all_goals refine ⟨_, a', y1, y2, y3, y4, y5, y6, v0, v1, n0', n1', r', d, c, rfl, rfl, rfl, hc, hx, ?_⟩
        all_goals first
          | exact rel_set S.out hb' t X1
          | exact rel_new S.out hb' t
      case rest =>
        obtain ⟨gx, a', y1, y2, y3, y4, y5, y6, v0, v1, n0', n1', r', d, c, rfl, rfl, rfl, hc, hx, hgx, X, t, S'⟩ := hcut
        have HX := Lib.hid hx; have XX := Lib.hid X; have TY := Lib.hid t; have S2 := Lib.hid S'
        have HG := Lib.hid hgx
        clear hx X t S' hgx h1 h2 h1' h2' s0 s1 s2 s3 s0' s1' s2' s3' S
        have q0 := XX.out.c0; have q1 := XX.out.c1; have q2 := XX.out.c2; have q3 := XX.out.c3
        have sf := S2.out.d.fr
        have s0 := S2.out.d.c0; have s1 := S2.out.d.c1; have s2 := S2.out.d.c2; have s3 := S2.out.d.c3
        have HNN := Lib.hid (show 0 ≤ n ∧ n ≤ 300 from ⟨n0, HN.out⟩)
        have HK := Lib.hid (show n ≤ k ∧ k < l.length ∧ l.length ≤ 300 from ⟨nk, hlt, hs⟩)
        clear hlt
        rcases hc with rfl | rfl
        · go_wp2_with fail
          refine (check_two a' _ _ _ _ _ _ r' v0 v1 n0' n1' _ TY.out).mono ?_
          rintro e wd ⟨rfl, hb⟩
          rw [if_pos HX.out.1]
          replace XX := Lib.hid (XX.out.below hb)
          replace TY := Lib.hid (TY.out.below hb)
          replace S2 := Lib.hid (S2.out.below hb)
          clear hb q0 q1 q2 q3 s0 s1 s2 s3 sf
          have q0 := XX.out.c0; have q1 := XX.out.c1; have q2 := XX.out.c2; have q3 := XX.out.c3
          have sf := S2.out.d.fr
          have s0 := S2.out.d.c0; have s1 := S2.out.d.c1; have s2 := S2.out.d.c2; have s3 := S2.out.d.c3
          rcases HX.out.2 with ⟨rfl, rfl⟩ | ⟨rfl, hm⟩ | ⟨rfl, hm⟩
          · have F := Lib.hid (S2.out.store (a' := -1) (r' := r') TY.out)
            have t0 := F.out.d.c0
            go_wp2_with fail
            go_ret
            exact ⟨rfl, bb B2.out F.out.b⟩
          · cases d
            · obtain rfl : n = n0' := by simpa using hm.symm
              clear hm
              have F := Lib.hid (S2.out.store (a' := 0) (r' := r') TY.out)
              have t0 := F.out.d.c0; have t1 := F.out.d.c1; have t2 := F.out.d.c2; have t3 := F.out.d.c3; have t4 := F.out.t.y0; have t5 := F.out.t.y1
              have b0 : n ≤ 300 := HNN.out.2
              have b1 : 0 ≤ n := HNN.out.1
              go_wp2_with fail
              go_roundw
              case rel => exact ⟨k + 1, n, 0, y1, y2, y3, y4, y5, y6, v0, v1, n, _, r', rfl, by go_num, by have := HK.out; omega, by have := HNN.out; omega, by have := HK.out; omega, F.out, HX.out.1, .inl ⟨rfl, rfl⟩⟩
              case measure => have := HK.out; simp [intOf]; omega
            · obtain rfl : (n + 1) = n0' := by simpa using hm.symm
              clear hm
              have F := Lib.hid (S2.out.store (a' := 0) (r' := r') TY.out)
              have t0 := F.out.d.c0; have t1 := F.out.d.c1; have t2 := F.out.d.c2; have t3 := F.out.d.c3; have t4 := F.out.t.y0; have t5 := F.out.t.y1
              have b0 : n ≤ 300 := HNN.out.2
              have b1 : 0 ≤ n := HNN.out.1
              go_wp2_with fail
              go_roundw
              case rel => exact ⟨k + 1, n + 1, 0, y1, y2, y3, y4, y5, y6, v0, v1, n + 1, _, r', rfl, by go_num, by have := HK.out; omega, by have := HNN.out; omega, by have := HK.out; omega, F.out, HX.out.1, .inl ⟨rfl, rfl⟩⟩
              case measure => have := HK.out; simp [intOf]; omega
          · cases d
            · obtain rfl : n = n1' := by simpa using hm.symm
              clear hm
              have F := Lib.hid (S2.out.store (a' := 1) (r' := r') TY.out)
              have t0 := F.out.d.c0; have t1 := F.out.d.c1; have t2 := F.out.d.c2; have t3 := F.out.d.c3; have t4 := F.out.t.y0; have t5 := F.out.t.y1
              have b0 : n ≤ 300 := HNN.out.2
              have b1 : 0 ≤ n := HNN.out.1
              go_wp2_with fail
              go_roundw
              case rel => exact ⟨k + 1, n, 1, y1, y2, y3, y4, y5, y6, v0, v1, _, n, r', rfl, by go_num, by have := HK.out; omega, by have := HNN.out; omega, by have := HK.out; omega, F.out, HX.out.1, .inr ⟨rfl, rfl⟩⟩
              case measure => have := HK.out; simp [intOf]; omega
            · obtain rfl : (n + 1) = n1' := by simpa using hm.symm
              clear hm
              have F := Lib.hid (S2.out.store (a' := 1) (r' := r') TY.out)
              have t0 := F.out.d.c0; have t1 := F.out.d.c1; have t2 := F.out.d.c2; have t3 := F.out.d.c3; have t4 := F.out.t.y0; have t5 := F.out.t.y1
              have b0 : n ≤ 300 := HNN.out.2
              have b1 : 0 ≤ n := HNN.out.1
              go_wp2_with fail
              go_roundw
              case rel => exact ⟨k + 1, n + 1, 1, y1, y2, y3, y4, y5, y6, v0, v1, _, n + 1, r', rfl, by go_num, by have := HK.out; omega, by have := HNN.out; omega, by have := HK.out; omega, F.out, HX.out.1, .inr ⟨rfl, rfl⟩⟩
              case measure => have := HK.out; simp [intOf]; omega
        · go_wp2_with fail
          refine (check_two a' _ _ _ _ _ _ r' v0 v1 n0' n1' _ TY.out).mono ?_
          rintro e wd ⟨rfl, hb⟩
          rw [if_pos HX.out.1]
          replace XX := Lib.hid (XX.out.below hb)
          replace TY := Lib.hid (TY.out.below hb)
          replace S2 := Lib.hid (S2.out.below hb)
          clear hb q0 q1 q2 q3 s0 s1 s2 s3 sf
          have q0 := XX.out.c0; have q1 := XX.out.c1; have q2 := XX.out.c2; have q3 := XX.out.c3
          have sf := S2.out.d.fr
          have s0 := S2.out.d.c0; have s1 := S2.out.d.c1; have s2 := S2.out.d.c2; have s3 := S2.out.d.c3
          rcases HX.out.2 with ⟨rfl, rfl⟩ | ⟨rfl, hm⟩ | ⟨rfl, hm⟩
          · have F := Lib.hid (S2.out.store (a' := -1) (r' := r') TY.out)
            have t0 := F.out.d.c0
            go_wp2_with fail
            go_ret
            exact ⟨rfl, bb B2.out F.out.b⟩
          · cases d
            · obtain rfl : n = n0' := by simpa using hm.symm
              clear hm
              have F := Lib.hid (S2.out.store (a' := 0) (r' := r') TY.out)
              have t0 := F.out.d.c0; have t1 := F.out.d.c1; have t2 := F.out.d.c2; have t3 := F.out.d.c3; have t4 := F.out.t.y0; have t5 := F.out.t.y1
              have b0 : n ≤ 300 := HNN.out.2
              have b1 : 0 ≤ n := HNN.out.1
              go_wp2_with fail
              go_roundw
              case rel => exact ⟨k + 1, n, 0, y1, y2, y3, y4, y5, y6, v0, v1, n, _, r', rfl, by go_num, by have := HK.out; omega, by have := HNN.out; omega, by have := HK.out; omega, F.out, HX.out.1, .inl ⟨rfl, rfl⟩⟩
              case measure => have := HK.out; simp [intOf]; omega
            · obtain rfl : (n + 1) = n0' := by simpa using hm.symm
              clear hm
              have F := Lib.hid (S2.out.store (a' := 0) (r' := r') TY.out)
              have t0 := F.out.d.c0; have t1 := F.out.d.c1; have t2 := F.out.d.c2; have t3 := F.out.d.c3; have t4 := F.out.t.y0; have t5 := F.out.t.y1
              have b0 : n ≤ 300 := HNN.out.2
              have b1 : 0 ≤ n := HNN.out.1
              go_wp2_with fail
              go_roundw
              case rel => exact ⟨k + 1, n + 1, 0, y1, y2, y3, y4, y5, y6, v0, v1, n + 1, _, r', rfl, by go_num, by have := HK.out; omega, by have := HNN.out; omega, by have := HK.out; omega, F.out, HX.out.1, .inl ⟨rfl, rfl⟩⟩
              case measure => have := HK.out; simp [intOf]; omega
          · cases d
            · obtain rfl : n = n1' := by simpa using hm.symm
              clear hm
              have F := Lib.hid (S2.out.store (a' := 1) (r' := r') TY.out)
              have t0 := F.out.d.c0; have t1 := F.out.d.c1; have t2 := F.out.d.c2; have t3 := F.out.d.c3; have t4 := F.out.t.y0; have t5 := F.out.t.y1
              have b0 : n ≤ 300 := HNN.out.2
              have b1 : 0 ≤ n := HNN.out.1
              go_wp2_with fail
              go_roundw
              case rel => exact ⟨k + 1, n, 1, y1, y2, y3, y4, y5, y6, v0, v1, _, n, r', rfl, by go_num, by have := HK.out; omega, by have := HNN.out; omega, by have := HK.out; omega, F.out, HX.out.1, .inr ⟨rfl, rfl⟩⟩
              case measure => have := HK.out; simp [intOf]; omega
            · obtain rfl : (n + 1) = n1' := by simpa using hm.symm
              clear hm
              have F := Lib.hid (S2.out.store (a' := 1) (r' := r') TY.out)
              have t0 := F.out.d.c0; have t1 := F.out.d.c1; have t2 := F.out.d.c2; have t3 := F.out.d.c3; have t4 := F.out.t.y0; have t5 := F.out.t.y1
              have b0 : n ≤ 300 := HNN.out.2
              have b1 : 0 ≤ n := HNN.out.1
              go_wp2_with fail
              go_roundw
              case rel => exact ⟨k + 1, n + 1, 1, y1, y2, y3, y4, y5, y6, v0, v1, _, n + 1, r', rfl, by go_num, by have := HK.out; omega, by have := HNN.out; omega, by have := HK.out; omega, F.out, HX.out.1, .inr ⟨rfl, rfl⟩⟩
              case measure => have := HK.out; simp [intOf]; omega
    · have hbw := Lib.hid (bb B2.out S.out.b)
      clear S HI
      go_wp2
      go_ret
      exact ⟨rfl, hbw.out⟩

theorem law4_walk (A : Option Addr) (c : Nat) (l : List (Int × Int)) (w : World) (hr : Kd.C kOp w A l.length l) : Calls Try.prog 4 #[.slice A l.length c] w (LawPost w) := by
  by_cases hs : l.length ≤ 300
  · exact law4_small A c l hs w hr
  · exact law4_big A c l.length hs hr.2.1 w
end Go.Proofs.Ytfjboaanpiceaaa.P
