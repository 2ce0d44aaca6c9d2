import Derived.Test.YtfjboaanpiceaaaExtA
import Derived.RegionTactic
import Derived.Laws.CopyOwn
namespace Go.Proofs.Ytfjboaanpiceaaa.P
open Go.RowKit Go.Proofs.YtfjboaanpiceaaaW.PrintWords Go.Proofs.YtfjboaanpiceaaaW.PrintLast Go.Proofs.YtfjboaanpiceaaaW.PrintMore
set_option linter.unusedVariables false
set_option linter.unusedSimpArgs false

theorem two_cells {w : World} {b o : Nat} {x y : Value} (h0 : w.cell? ⟨b, o, none⟩ = some x) (h1 : w.cell? ⟨b, o + 1, none⟩ = some y) : ∀ j v, [x, y][j]? = some v → w.cell? ((⟨b, o, none⟩ : Addr).add j) = some v := by
  intro j v hj
  match j, hj with
  | 0, hj =>
    obtain rfl : x = v := by simpa using hj
    simpa [Addr.add] using h0
  | 1, hj =>
    obtain rfl : y = v := by simpa using hj
    simpa [Addr.add] using h1
theorem two_below {w W : World} {ad : Addr} {x y : Value} (h : ∀ j v, [x, y][j]? = some v → w.cell? (ad.add j) = some v) (hb : Below w.heap.size w W) : ∀ j v, [x, y][j]? = some v → W.cell? (ad.add j) = some v :=
  fun j v hj => pw_cell_below hb (h j v hj)
theorem setRow_last (W : World) (cur new : Array Value) (t : TypeId) : (W.alloc (.cells cur t)).setRow W.heap.size new = W.alloc (.cells new t) := by
  unfold World.setRow World.alloc
  congr 1
  apply Array.ext_getElem?
  intro i
  rw [Array.getElem?_modify, Array.getElem?_push, Array.getElem?_push]
  by_cases h : i = W.heap.size
  · subst h; simp
  · rw [if_neg (Ne.symm h)]; simp [h]
theorem copy_b (w : World) (X : Obj) (ad : Addr) (c : Nat) (a m0 m1 : Int) (u0 u1 r : Bool) (h : ∀ j v, [Value.bool u0, .bool u1][j]? = some v → w.cell? (ad.add j) = some v) :
    (Builtin.copy_ #[22, 22] 3 #[.slice (some ⟨w.heap.size + 1, 1, none⟩) 2 2, .slice (some ad) 2 c]).run Try.prog ((w.alloc X).alloc (.cells #[.int .i64 a, .bool false, .bool false, .int .i64 m0, .int .i64 m1, .bool r] 48)).drew =
      .ok (goInt 2) ((w.alloc X).alloc (.cells #[.int .i64 a, .bool u0, .bool u1, .int .i64 m0, .int .i64 m1, .bool r] 48)).drew := by
  have hb : Below w.heap.size w ((w.alloc X).alloc (.cells #[.int .i64 a, .bool false, .bool false, .int .i64 m0, .int .i64 m1, .bool r] 48)).drew := below_drew (below_alloc (below_alloc (Below.refl _ _) _) _)
  have hs : (w.alloc X).heap.size = w.heap.size + 1 := by simp
  have := run_copy_row (P := Try.prog) ((w.alloc X).alloc (.cells #[.int .i64 a, .bool false, .bool false, .int .i64 m0, .int .i64 m1, .bool r] 48)).drew 22 22 3 4 (w.heap.size + 1) 1 2 2 ad 2 c #[.int .i64 a, .bool false, .bool false, .int .i64 m0, .int .i64 m1, .bool r] 48 [.bool u0, .bool u1] Try.underlying22 (by kernel_rfl)
    (by rw [← hs]; exact heap_alloc_new (w.alloc X) _) rfl (two_below h hb) (by simp) (by simp [Value.oneCell'])
  rw [this]
  congr 1
  show ((((w.alloc X).alloc _).setRow (w.heap.size + 1) _).drew) = _
  rw [← hs, setRow_last]
  rfl

theorem copy_i (w : World) (X : Obj) (ad : Addr) (c : Nat) (a m0 m1 : Int) (u0 u1 r : Bool) (h : ∀ j v, [Value.int .i64 m0, .int .i64 m1][j]? = some v → w.cell? (ad.add j) = some v) :
    (Builtin.copy_ #[23, 23] 3 #[.slice (some ⟨w.heap.size + 1, 3, none⟩) 2 2, .slice (some ad) 2 c]).run Try.prog ((w.alloc X).alloc (.cells #[.int .i64 a, .bool u0, .bool u1, .int .i64 0, .int .i64 0, .bool r] 48)).drew.drew =
      .ok (goInt 2) ((w.alloc X).alloc (.cells #[.int .i64 a, .bool u0, .bool u1, .int .i64 m0, .int .i64 m1, .bool r] 48)).drew.drew := by
  have hb : Below w.heap.size w ((w.alloc X).alloc (.cells #[.int .i64 a, .bool u0, .bool u1, .int .i64 0, .int .i64 0, .bool r] 48)).drew.drew := below_drew (below_drew (below_alloc (below_alloc (Below.refl _ _) _) _))
  have hs : (w.alloc X).heap.size = w.heap.size + 1 := by simp
  have := run_copy_row (P := Try.prog) ((w.alloc X).alloc (.cells #[.int .i64 a, .bool u0, .bool u1, .int .i64 0, .int .i64 0, .bool r] 48)).drew.drew 23 23 3 3 (w.heap.size + 1) 3 2 2 ad 2 c #[.int .i64 a, .bool u0, .bool u1, .int .i64 0, .int .i64 0, .bool r] 48 [.int .i64 m0, .int .i64 m1] Try.underlying23 (by kernel_rfl)
    (by rw [← hs]; exact heap_alloc_new (w.alloc X) _) rfl (two_below h hb) (by simp) (by simp [Value.oneCell'])
  rw [this]
  congr 1
  show ((((w.alloc X).alloc _).setRow (w.heap.size + 1) _).drew.drew) = _
  rw [← hs, setRow_last]
  rfl

set_option maxHeartbeats 1000000 in
theorem load_two (a : Int) (b1 o1 c1 b2 o2 c2 : Nat) (r : Bool) (u0 u1 : Bool) (m0 m1 : Int) (w : World)
    (h1 : ∀ j v, [Value.bool u0, .bool u1][j]? = some v → w.cell? ((⟨b1, o1, none⟩ : Addr).add j) = some v) (h2 : ∀ j v, [Value.int .i64 m0, .int .i64 m1][j]? = some v → w.cell? ((⟨b2, o2, none⟩ : Addr).add j) = some v) :
    Calls Try.prog 43 #[.agg #[.int .i64 a, .slice (some ⟨b1, o1, none⟩) 2 c1, .slice (some ⟨b2, o2, none⟩) 2 c2, .bool r]] w fun e w' => e = .returned (.tuple #[.agg #[.int .i64 a, .bool u0, .bool u1, .int .i64 m0, .int .i64 m1, .bool r], .bool true]) ∧ Below w.heap.size w w' := by
  have K1 := copy_b w (.cells #[.int .i64 a, .slice (some ⟨b1, o1, none⟩) 2 c1, .slice (some ⟨b2, o2, none⟩) 2 c2, .bool r] 25) ⟨b1, o1, none⟩ c1 a 0 0 u0 u1 r h1
  have K2 := copy_i w (.cells #[.int .i64 a, .slice (some ⟨b1, o1, none⟩) 2 c1, .slice (some ⟨b2, o2, none⟩) 2 c2, .bool r] 25) ⟨b2, o2, none⟩ c2 a m0 m1 u0 u1 r h2
  clear h1 h2
  go_enter Try.func43, Try.ntmps43
  go_wp2_with fail
  go_region
  go_wp2_with fail
  go_region
  go_wp2
  exact bodyPost_ret (v := .tuple #[.agg #[.int .i64 a, .bool u0, .bool u1, .int .i64 m0, .int .i64 m1, .bool r], .bool true]) (by simp [results, Try.results43, go_sem]) rfl ⟨rfl, below_drew (below_drew (below_alloc (below_alloc (Below.refl _ _) _) _))⟩

set_option maxHeartbeats 1000000 in
theorem load_not1 (a : Int) (A1 A2 : Option Addr) (n1 c1 n2 c2 : Nat) (r : Bool) (w : World) (hn : ¬ n1 = 2) :
    Calls Try.prog 43 #[.agg #[.int .i64 a, .slice A1 n1 c1, .slice A2 n2 c2, .bool r]] w fun e w' => e = .returned (.tuple #[.agg #[.int .i64 0, .bool false, .bool false, .int .i64 0, .int .i64 0, .bool false], .bool false]) ∧ Below w.heap.size w w' := by
  have hn' : ((n1 : Int) == 2) = false := by simp; omega
  have hn2 : ((n1 : Int) != 2) = true := by simp; omega
  clear hn
  go_enter Try.func43, Try.ntmps43
  go_wp2
  exact bodyPost_ret (v := .tuple #[.agg #[.int .i64 0, .bool false, .bool false, .int .i64 0, .int .i64 0, .bool false], .bool false]) (by simp [results, Try.results43, go_sem]) rfl ⟨rfl, (below_alloc (below_alloc (Below.refl _ _) _) _)⟩
theorem load_not2 (a : Int) (A1 A2 : Option Addr) (c1 n2 c2 : Nat) (r : Bool) (w : World) (hn : ¬ n2 = 2) :
    Calls Try.prog 43 #[.agg #[.int .i64 a, .slice A1 2 c1, .slice A2 n2 c2, .bool r]] w fun e w' => e = .returned (.tuple #[.agg #[.int .i64 0, .bool false, .bool false, .int .i64 0, .int .i64 0, .bool false], .bool false]) ∧ Below w.heap.size w w' := by
  have hn' : ((n2 : Int) == 2) = false := by simp; omega
  have hn2 : ((n2 : Int) != 2) = true := by simp; omega
  clear hn
  go_enter Try.func43, Try.ntmps43
  go_wp2
  exact bodyPost_ret (v := .tuple #[.agg #[.int .i64 0, .bool false, .bool false, .int .i64 0, .int .i64 0, .bool false], .bool false]) (by simp [results, Try.results43, go_sem]) rfl ⟨rfl, (below_alloc (below_alloc (Below.refl _ _) _) _)⟩

set_option maxHeartbeats 1000000 in
theorem store_calls (g : Nat) (a : Int) (u0 u1 : Bool) (m0 m1 : Int) (r : Bool) (w : World) (hp : PBlk w g a u0 u1 m0 m1 r) :
    Calls Try.prog 45 #[.pointer (some ⟨g, 0, none⟩)] w fun e w' => e = .returned (.agg #[.int .i64 a, .slice (some ⟨g, 1, none⟩) 2 2, .slice (some ⟨g, 3, none⟩) 2 2, .bool r]) ∧ Below w.heap.size w w' := by
  have c0 := fun o => (hp.alloc o).c0
  have c5 := fun o => (hp.alloc o).c5
  clear hp
  go_enter Try.func45, Try.ntmps45
  go_wp2_with fail
  go_region
  all_goals go_wp2
  all_goals exact bodyPost_ret (v := .agg #[.int .i64 a, .slice (some ⟨g, 1, none⟩) 2 2, .slice (some ⟨g, 3, none⟩) 2 2, .bool r]) (by simp [results, Try.results45, go_sem]) rfl ⟨rfl, by repeat (first | exact Below.refl _ _ | apply below_drew | apply below_alloc)⟩

/-- As w was, but for block g, draws and new blocks. -/
structure Only (g : Nat) (w w' : World) : Prop where
  os : w'.os = w.os
  tape : w'.tape = w.tape
  output : w'.output = w.output
  size : w.heap.size ≤ w'.heap.size
  block : ∀ k, k < w.heap.size → k ≠ g → w'.heap[k]? = w.heap[k]?
theorem Only.refl (g : Nat) (w : World) : Only g w w := ⟨rfl, rfl, rfl, Nat.le_refl _, fun _ _ _ => rfl⟩
theorem Only.drew {g : Nat} {w w' : World} (h : Only g w w') : Only g w w'.drew := ⟨h.os, h.tape, h.output, h.size, h.block⟩
theorem Only.drewN {g : Nat} {w w' : World} (h : Only g w w') (n : Nat) : Only g w (w'.drewN n) := ⟨h.os, h.tape, h.output, h.size, h.block⟩
theorem Only.set_ {g : Nat} {w w' : World} (h : Only g w w') (i : Nat) (u : Value) : Only g w (w'.setCell ⟨g, i, none⟩ u) :=
  ⟨h.os, h.tape, h.output, by simpa using h.size, fun k hk hne => (Below.heap_setCell w' ⟨g, i, none⟩ u k hne).trans (h.block k hk hne)⟩
theorem Only.below {g B : Nat} {w0 w w' : World} (h : Only g w w') (hb : Below B w0 w) (hg : B ≤ g) (hB : B ≤ w.heap.size) : Below B w0 w' :=
  hb.trans ⟨h.os, h.tape, h.output, h.size, fun k hk => h.block k (by omega) (by omega)⟩
section
variable {w w' : World} {g : Nat} {a : Int} {u0 u1 : Bool} {m0 m1 : Int} {r : Bool}
theorem PBlk.set0 (h : PBlk w g a u0 u1 m0 m1 r) (x : Int) : PBlk (w.setCell ⟨g, 0, none⟩ (.int .i64 x)) g x u0 u1 m0 m1 r := by
  unfold PBlk at h ⊢; simp [World.setCell, Array.getElem?_modify, h]
theorem PBlk.set1 (h : PBlk w g a u0 u1 m0 m1 r) (x : Bool) : PBlk (w.setCell ⟨g, 1, none⟩ (.bool x)) g a x u1 m0 m1 r := by
  unfold PBlk at h ⊢; simp [World.setCell, Array.getElem?_modify, h]
theorem PBlk.set2 (h : PBlk w g a u0 u1 m0 m1 r) (x : Bool) : PBlk (w.setCell ⟨g, 2, none⟩ (.bool x)) g a u0 x m0 m1 r := by
  unfold PBlk at h ⊢; simp [World.setCell, Array.getElem?_modify, h]
theorem PBlk.set3 (h : PBlk w g a u0 u1 m0 m1 r) (x : Int) : PBlk (w.setCell ⟨g, 3, none⟩ (.int .i64 x)) g a u0 u1 x m1 r := by
  unfold PBlk at h ⊢; simp [World.setCell, Array.getElem?_modify, h]
theorem PBlk.set4 (h : PBlk w g a u0 u1 m0 m1 r) (x : Int) : PBlk (w.setCell ⟨g, 4, none⟩ (.int .i64 x)) g a u0 u1 m0 x r := by
  unfold PBlk at h ⊢; simp [World.setCell, Array.getElem?_modify, h]
theorem PBlk.set5 (h : PBlk w g a u0 u1 m0 m1 r) (x : Bool) : PBlk (w.setCell ⟨g, 5, none⟩ (.bool x)) g a u0 u1 m0 m1 x := by
  unfold PBlk at h ⊢; simp [World.setCell, Array.getElem?_modify, h]
theorem PBlk.drew (h : PBlk w g a u0 u1 m0 m1 r) : PBlk w.drew g a u0 u1 m0 m1 r := h
end

/-- What 'arm' does. -/
theorem arm_calls (g : Nat) (a : Int) (u0 u1 : Bool) (m0 m1 : Int) (r : Bool) (i : Int) (w : World) (hp : PBlk w g a u0 u1 m0 m1 r) :
    Calls Try.prog 39 #[.pointer (some ⟨g, 0, none⟩), .int .i64 i] w fun e w' => e = .returned (.tuple #[]) ∧ PBlk w' g a u0 u1 m0 m1 true ∧ Only g w w' := by
  have HP := Lib.hid hp
  have c5 := hp.c5; have f5 := hp.fr 5
  clear hp
  go_enter Try.func39, Try.ntmps39
  go_wp2
  go_end0
  exact ⟨rfl, HP.out.set5 true, (Only.refl _ _).set_ 5 _⟩

def downA (a : Int) (u0 u1 : Bool) (i : Int) : Int := if a = i then (if i = 0 then (if u1 then 1 else -1) else (if u0 then 0 else -1)) else a
theorem down_0 (g : Nat) (a : Int) (u0 u1 : Bool) (m0 m1 : Int) (r : Bool) (w : World) (hp : PBlk w g a u0 u1 m0 m1 r) :
    Calls Try.prog 30 #[.pointer (some ⟨g, 0, none⟩), .int .i64 0] w fun e w' => e = .returned (.tuple #[]) ∧ PBlk w' g (if a = 0 then (if u1 then 1 else -1) else a) false u1 m0 m1 (if a = 0 then false else r) ∧ Only g w w' := by
  by_cases ha : a = 0
  · subst ha
    cases u1
    · have HP := Lib.hid hp
      have c0 := hp.c0; have c1 := hp.c1; have c2 := hp.c2; have c5 := hp.c5; have f0 := hp.fr 0; have f1 := hp.fr 1; have f2 := hp.fr 2; have f5 := hp.fr 5
      clear hp
      go_enter Try.func30, Try.ntmps30
      go_wp2
      go_end0
      exact ⟨rfl, ((HP.out.set1 false).set0 (-1)).set5 false, (((Only.refl _ _).set_ 1 _).set_ 0 _).set_ 5 _⟩
    · have HP := Lib.hid hp
      have c0 := hp.c0; have c1 := hp.c1; have c2 := hp.c2; have c5 := hp.c5; have f0 := hp.fr 0; have f1 := hp.fr 1; have f2 := hp.fr 2; have f5 := hp.fr 5
      clear hp
      go_enter Try.func30, Try.ntmps30
      go_wp2
      go_end0
      exact ⟨rfl, (((HP.out.set1 false).set0 (-1)).set5 false).set0 1, ((((Only.refl _ _).set_ 1 _).set_ 0 _).set_ 5 _).set_ 0 _⟩
  · have HP := Lib.hid hp
    have HA := Lib.hid ha
    have c0 := hp.c0; have c1 := hp.c1; have c2 := hp.c2; have c5 := hp.c5; have f0 := hp.fr 0; have f1 := hp.fr 1; have f2 := hp.fr 2; have f5 := hp.fr 5
    have hb : (a == 0) = false := by simpa using ha
    have hb2 : (a != 0) = true := by simpa using ha
    clear hp ha
    go_enter Try.func30, Try.ntmps30
    go_wp2
    exact bodyPost_ret (v := .tuple #[]) (by simp [results, Try.results30, go_sem]) rfl ⟨rfl, HP.out.set1 false, (Only.refl _ _).set_ 1 _⟩
theorem down_1 (g : Nat) (a : Int) (u0 u1 : Bool) (m0 m1 : Int) (r : Bool) (w : World) (hp : PBlk w g a u0 u1 m0 m1 r) :
    Calls Try.prog 30 #[.pointer (some ⟨g, 0, none⟩), .int .i64 1] w fun e w' => e = .returned (.tuple #[]) ∧ PBlk w' g (if a = 1 then (if u0 then 0 else -1) else a) u0 false m0 m1 (if a = 1 then false else r) ∧ Only g w w' := by
  by_cases ha : a = 1
  · subst ha
    cases u0
    · have HP := Lib.hid hp
      have c0 := hp.c0; have c1 := hp.c1; have c2 := hp.c2; have c5 := hp.c5; have f0 := hp.fr 0; have f1 := hp.fr 1; have f2 := hp.fr 2; have f5 := hp.fr 5
      clear hp
      go_enter Try.func30, Try.ntmps30
      go_wp2
      go_end0
      exact ⟨rfl, ((HP.out.set2 false).set0 (-1)).set5 false, (((Only.refl _ _).set_ 2 _).set_ 0 _).set_ 5 _⟩
    · have HP := Lib.hid hp
      have c0 := hp.c0; have c1 := hp.c1; have c2 := hp.c2; have c5 := hp.c5; have f0 := hp.fr 0; have f1 := hp.fr 1; have f2 := hp.fr 2; have f5 := hp.fr 5
      clear hp
      go_enter Try.func30, Try.ntmps30
      go_wp2
      go_end0
      exact ⟨rfl, (((HP.out.set2 false).set0 (-1)).set5 false).set0 0, ((((Only.refl _ _).set_ 2 _).set_ 0 _).set_ 5 _).set_ 0 _⟩
  · have HP := Lib.hid hp
    have c0 := hp.c0; have c1 := hp.c1; have c2 := hp.c2; have c5 := hp.c5; have f0 := hp.fr 0; have f1 := hp.fr 1; have f2 := hp.fr 2; have f5 := hp.fr 5
    have hb : (a == 1) = false := by simpa using ha
    have hb2 : (a != 1) = true := by simpa using ha
    clear hp
    go_enter Try.func30, Try.ntmps30
    go_wp2
    exact bodyPost_ret (v := .tuple #[]) (by simp [results, Try.results30, go_sem]) rfl ⟨rfl, HP.out.set2 false, (Only.refl _ _).set_ 2 _⟩

def cnt (u : Bool) (m : Int) : Int := if u then m + 1 else m
theorem count_calls (g : Nat) (a : Int) (u0 u1 : Bool) (m0 m1 : Int) (r : Bool) (i : Int) (w : World) (hp : PBlk w g a u0 u1 m0 m1 r) (h0 : 0 ≤ m0 ∧ m0 ≤ 1099511627776) (h1 : 0 ≤ m1 ∧ m1 ≤ 1099511627776) :
    Calls Try.prog 31 #[.pointer (some ⟨g, 0, none⟩), .int .i64 i] w fun e w' => e = .returned (.tuple #[]) ∧ PBlk w' g a u0 u1 (cnt u0 m0) (cnt u1 m1) r ∧ Only g w w' := by
  obtain ⟨h0a, h0b⟩ := h0
  obtain ⟨h1a, h1b⟩ := h1
  have HP := Lib.hid hp
  have c1 := hp.c1; have c2 := hp.c2; have c3 := hp.c3; have c4 := hp.c4; have f3 := hp.fr 3; have f4 := hp.fr 4
  clear hp
  cases u0 <;> cases u1
  · go_enter Try.func31, Try.ntmps31
    go_wp2
    refine wp_loop_rounds 3 ?_
    rw [rounds_succ]
    go_wp2
    rw [rounds_succ]
    go_wp2
    rw [rounds_succ]
    go_wp2
    go_end0
    exact ⟨rfl, HP.out, Only.refl _ _⟩
  · go_enter Try.func31, Try.ntmps31
    go_wp2
    refine wp_loop_rounds 3 ?_
    rw [rounds_succ]
    go_wp2
    rw [rounds_succ]
    go_wp2
    go_region
    all_goals go_wp2
    all_goals rw [rounds_succ]
    all_goals go_wp2
    all_goals go_end0
    all_goals exact ⟨rfl, (HP.out.set4 (m1 + 1)).drew, ((Only.refl _ _).set_ 4 _).drew⟩
  · go_enter Try.func31, Try.ntmps31
    go_wp2
    refine wp_loop_rounds 3 ?_
    rw [rounds_succ]
    go_wp2
    go_region
    all_goals go_wp2
    all_goals rw [rounds_succ]
    all_goals go_wp2
    all_goals rw [rounds_succ]
    all_goals go_wp2
    all_goals go_end0
    all_goals exact ⟨rfl, (HP.out.set3 (m0 + 1)).drew, ((Only.refl _ _).set_ 3 _).drew⟩
  · go_enter Try.func31, Try.ntmps31
    go_wp2
    refine wp_loop_rounds 3 ?_
    rw [rounds_succ]
    go_wp2
    go_region
    all_goals go_wp2
    all_goals rw [rounds_succ]
    all_goals go_wp2
    all_goals go_region
    all_goals go_wp2
    all_goals rw [rounds_succ]
    all_goals go_wp2
    all_goals go_end0
    all_goals exact ⟨rfl, (((HP.out.set3 (m0 + 1)).set4 (m1 + 1)).drew).drew, ((((Only.refl _ _).set_ 3 _).set_ 4 _).drew).drew⟩
end Go.Proofs.Ytfjboaanpiceaaa.P
