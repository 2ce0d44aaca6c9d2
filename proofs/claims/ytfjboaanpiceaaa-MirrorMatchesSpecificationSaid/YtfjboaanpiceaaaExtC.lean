import Derived.Test.YtfjboaanpiceaaaExtB
namespace Go.Proofs.Ytfjboaanpiceaaa.P
open Go.RowKit Go.Proofs.YtfjboaanpiceaaaW.PrintWords Go.Proofs.YtfjboaanpiceaaaW.PrintLast Go.Proofs.YtfjboaanpiceaaaW.PrintMore
set_option linter.unusedVariables false
set_option linter.unusedSimpArgs false

theorem restore_0n (g : Nat) (u0 u1 : Bool) (m0 m1 : Int) (r : Bool) (w : World) (hp : PBlk w g (-1) u0 u1 m0 m1 r) :
    Calls Try.prog 42 #[.pointer (some ⟨g, 0, none⟩), .int .i64 0] w fun e w' => e = .returned (.tuple #[]) ∧ PBlk w' g 0 true u1 m0 m1 r ∧ Only g w w' := by
  have HP := Lib.hid hp
  have c0 := hp.c0; have c1 := hp.c1; have c2 := hp.c2; have c3 := hp.c3; have c4 := hp.c4; have f0 := hp.fr 0; have f1 := hp.fr 1; have f2 := hp.fr 2; have f3 := hp.fr 3; have f4 := hp.fr 4
  clear hp
  go_enter Try.func42, Try.ntmps42
  go_wp2
  go_region
  all_goals go_wp2
  all_goals go_end0
  all_goals exact ⟨rfl, (((HP.out.set1 true).set0 0).set3 m0).drew, ((((Only.refl _ _).set_ 1 _).set_ 0 _).set_ 3 _).drew⟩
theorem restore_01 (g : Nat) (u0 u1 : Bool) (m0 m1 : Int) (r : Bool) (w : World) (hp : PBlk w g 1 u0 u1 m0 m1 r) :
    Calls Try.prog 42 #[.pointer (some ⟨g, 0, none⟩), .int .i64 0] w fun e w' => e = .returned (.tuple #[]) ∧ PBlk w' g 1 true u1 m1 m1 r ∧ Only g w w' := by
  have HP := Lib.hid hp
  have c0 := hp.c0; have c1 := hp.c1; have c2 := hp.c2; have c3 := hp.c3; have c4 := hp.c4; have f0 := hp.fr 0; have f1 := hp.fr 1; have f2 := hp.fr 2; have f3 := hp.fr 3; have f4 := hp.fr 4
  clear hp
  go_enter Try.func42, Try.ntmps42
  go_wp2
  go_region
  all_goals go_wp2
  all_goals go_end0
  all_goals exact ⟨rfl, ((HP.out.set1 true).set3 m1).drew, (((Only.refl _ _).set_ 1 _).set_ 3 _).drew⟩
theorem restore_1n (g : Nat) (u0 u1 : Bool) (m0 m1 : Int) (r : Bool) (w : World) (hp : PBlk w g (-1) u0 u1 m0 m1 r) :
    Calls Try.prog 42 #[.pointer (some ⟨g, 0, none⟩), .int .i64 1] w fun e w' => e = .returned (.tuple #[]) ∧ PBlk w' g 1 u0 true m0 m1 r ∧ Only g w w' := by
  have HP := Lib.hid hp
  have c0 := hp.c0; have c1 := hp.c1; have c2 := hp.c2; have c3 := hp.c3; have c4 := hp.c4; have f0 := hp.fr 0; have f1 := hp.fr 1; have f2 := hp.fr 2; have f3 := hp.fr 3; have f4 := hp.fr 4
  clear hp
  go_enter Try.func42, Try.ntmps42
  go_wp2
  go_region
  all_goals go_wp2
  all_goals go_end0
  all_goals exact ⟨rfl, (((HP.out.set2 true).set0 1).set4 m1).drew, ((((Only.refl _ _).set_ 2 _).set_ 0 _).set_ 4 _).drew⟩
theorem restore_10 (g : Nat) (u0 u1 : Bool) (m0 m1 : Int) (r : Bool) (w : World) (hp : PBlk w g 0 u0 u1 m0 m1 r) :
    Calls Try.prog 42 #[.pointer (some ⟨g, 0, none⟩), .int .i64 1] w fun e w' => e = .returned (.tuple #[]) ∧ PBlk w' g 0 u0 true m0 m0 r ∧ Only g w w' := by
  have HP := Lib.hid hp
  have c0 := hp.c0; have c1 := hp.c1; have c2 := hp.c2; have c3 := hp.c3; have c4 := hp.c4; have f0 := hp.fr 0; have f1 := hp.fr 1; have f2 := hp.fr 2; have f3 := hp.fr 3; have f4 := hp.fr 4
  clear hp
  go_enter Try.func42, Try.ntmps42
  go_wp2
  go_region
  all_goals go_wp2
  all_goals go_end0
  all_goals exact ⟨rfl, ((HP.out.set2 true).set4 m0).drew, (((Only.refl _ _).set_ 2 _).set_ 4 _).drew⟩

/-! ### operate -/
def badD : Value := .agg #[.int .i64 0, .slice none 0 0, .slice none 0 0, .bool false]
def Bad (c : Int) (w : World) (e : Ending) (w' : World) : Prop := e = .returned (.tuple #[badD, .int .i64 c]) ∧ Below w.heap.size w w'
def badP : Value := .agg #[.int .i64 0, .bool false, .bool false, .int .i64 0, .int .i64 0, .bool false]
/-- A result in memory. -/
def DBlk (w : World) (g : Nat) (a : Int) (s1 s2 : Value) (r : Bool) : Prop := w.heap[g]? = some (.cells #[.int .i64 a, s1, s2, .bool r] 25 (0, 0))
section
variable {w w' : World} {g : Nat} {a : Int} {s1 s2 : Value} {r : Bool}
theorem DBlk.lt (h : DBlk w g a s1 s2 r) : g < w.heap.size := by
  rcases Nat.lt_or_ge g w.heap.size with hlt | hge
  · exact hlt
  · unfold DBlk at h; rw [Array.getElem?_eq_none hge] at h; cases h
theorem DBlk.c0 (h : DBlk w g a s1 s2 r) : w.cell? ⟨g, 0, none⟩ = some (.int .i64 a) := (cell_of_row w g 0 _ 25 (0, 0) h).trans rfl
theorem DBlk.c1 (h : DBlk w g a s1 s2 r) : w.cell? ⟨g, 1, none⟩ = some s1 := (cell_of_row w g 1 _ 25 (0, 0) h).trans rfl
theorem DBlk.c2 (h : DBlk w g a s1 s2 r) : w.cell? ⟨g, 2, none⟩ = some s2 := (cell_of_row w g 2 _ 25 (0, 0) h).trans rfl
theorem DBlk.c3 (h : DBlk w g a s1 s2 r) : w.cell? ⟨g, 3, none⟩ = some (.bool r) := (cell_of_row w g 3 _ 25 (0, 0) h).trans rfl
theorem DBlk.fr (h : DBlk w g a s1 s2 r) (i : Nat) : w.frozen? ⟨g, i, none⟩ = false := by
  unfold DBlk at h
  simp [World.frozen?, h]
theorem DBlk.alloc (h : DBlk w g a s1 s2 r) (o : Obj) : DBlk (w.alloc o) g a s1 s2 r := (Below.heap_alloc w o g h.lt).trans h
theorem DBlk.below (h : DBlk w g a s1 s2 r) (hb : Below w.heap.size w w') : DBlk w' g a s1 s2 r := (hb.block g h.lt).trans h
theorem DBlk.drewN (h : DBlk w g a s1 s2 r) (n : Nat) : DBlk (w.drewN n) g a s1 s2 r := h
theorem DBlk.only (h : DBlk w g a s1 s2 r) {g' : Nat} (ho : Only g' w w') (hne : g ≠ g') : DBlk w' g a s1 s2 r := (ho.block g h.lt hne).trans h
theorem DBlk.new (w : World) : DBlk (w.alloc (.cells #[.int .i64 a, s1, s2, .bool r] 25)) w.heap.size a s1 s2 r := heap_alloc_new w _
end
theorem PBlk.new (w : World) (a : Int) (u0 u1 : Bool) (m0 m1 : Int) (r : Bool) : PBlk (w.alloc (.cells #[.int .i64 a, .bool u0, .bool u1, .int .i64 m0, .int .i64 m1, .bool r] 48)) w.heap.size a u0 u1 m0 m1 r := heap_alloc_new w _

theorem load_not (a : Int) (A1 A2 : Option Addr) (n1 c1 n2 c2 : Nat) (r : Bool) (w : World) (hn : ¬ (n1 = 2 ∧ n2 = 2)) :
    Calls Try.prog 43 #[.agg #[.int .i64 a, .slice A1 n1 c1, .slice A2 n2 c2, .bool r]] w fun e w' => e = .returned (.tuple #[.agg #[.int .i64 0, .bool false, .bool false, .int .i64 0, .int .i64 0, .bool false], .bool false]) ∧ Below w.heap.size w w' := by
  by_cases h : n1 = 2
  · subst h
    exact load_not2 a A1 A2 c1 n2 c2 r w (fun h2 => hn ⟨rfl, h2⟩)
  · exact load_not1 a A1 A2 n1 c1 n2 c2 r w h

set_option maxHeartbeats 1000000 in
theorem operate_not (a : Int) (A1 A2 : Option Addr) (n1 c1 n2 c2 : Nat) (r : Bool) (i : Int) (f1 f2 : Value) (w : World) (hn : ¬ (n1 = 2 ∧ n2 = 2)) :
    Calls Try.prog 26 #[.agg #[.int .i64 a, .slice A1 n1 c1, .slice A2 n2 c2, .bool r], .int .i64 i, f1, f2] w (Bad 1 w) := by
  have HN := Lib.hid hn
  clear hn
  go_enter Try.func26, Try.ntmps26
  go_wp2_with fail
  refine (load_not _ _ _ _ _ _ _ _ _ HN.out).mono ?_
  rintro e w1 ⟨rfl, hb⟩
  have D := (DBlk.new (a := 0) (s1 := .slice none 0 0) (s2 := .slice none 0 0) (r := false) (w.alloc (.cells #[.int .i64 a, .slice A1 n1 c1, .slice A2 n2 c2, .bool r] 25))).below hb
  have hs : (w.alloc (.cells #[.int .i64 a, .slice A1 n1 c1, .slice A2 n2 c2, .bool r] 25)).heap.size = w.heap.size + 1 := by simp
  rw [hs] at D
  have HB := Lib.hid hb
  have d0 := fun o => (D.alloc o).c0; have d1 := fun o => (D.alloc o).c1; have d2 := fun o => (D.alloc o).c2; have d3 := fun o => (D.alloc o).c3; have df := fun o i => (D.alloc o).fr i
  clear hb D hs
  go_wp2_with fail
  refine bodyPost_ret (v := .tuple #[badD, .int .i64 1]) (by simp [results, Try.results26, go_sem, badD, *]) rfl ⟨rfl, ?_⟩
  refine Below.setCell (Below.setCell (Below.setCell (Below.setCell ?_ (by simp) _) (by simp) _) (by simp) _) (by simp) _
  exact below_alloc (below_then (below_alloc (below_alloc (Below.refl _ _) _) _) (by simp; omega) HB.out) _

set_option maxHeartbeats 1000000 in
theorem operate_invalid (a : Int) (b1 o1 c1 b2 o2 c2 : Nat) (r : Bool) (u0 u1 : Bool) (m0 m1 : Int) (i : Int) (f1 f2 : Value) (w : World)
    (h1 : ∀ j v, [Value.bool u0, .bool u1][j]? = some v → w.cell? ((⟨b1, o1, none⟩ : Addr).add j) = some v) (h2 : ∀ j v, [Value.int .i64 m0, .int .i64 m1][j]? = some v → w.cell? ((⟨b2, o2, none⟩ : Addr).add j) = some v)
    (hv : validB a u0 u1 m0 m1 r = false) :
    Calls Try.prog 26 #[.agg #[.int .i64 a, .slice (some ⟨b1, o1, none⟩) 2 c1, .slice (some ⟨b2, o2, none⟩) 2 c2, .bool r], .int .i64 i, f1, f2] w (Bad 1 w) := by
  have H1 := Lib.hid h1
  have H2 := Lib.hid h2
  have HV := Lib.hid hv
  clear h1 h2 hv
  go_enter Try.func26, Try.ntmps26
  go_wp2_with fail
  refine (load_two a b1 o1 c1 b2 o2 c2 r u0 u1 m0 m1 _ (two_below H1.out (below_alloc (below_alloc (Below.refl _ _) _) _)) (two_below H2.out (below_alloc (below_alloc (Below.refl _ _) _) _))).mono ?_
  rintro e w1 ⟨rfl, hb⟩
  have D := (DBlk.new (a := 0) (s1 := .slice none 0 0) (s2 := .slice none 0 0) (r := false) (w.alloc (.cells #[.int .i64 a, .slice (some ⟨b1, o1, none⟩) 2 c1, .slice (some ⟨b2, o2, none⟩) 2 c2, .bool r] 25))).below hb
  have hs : (w.alloc (.cells #[.int .i64 a, .slice (some ⟨b1, o1, none⟩) 2 c1, .slice (some ⟨b2, o2, none⟩) 2 c2, .bool r] 25)).heap.size = w.heap.size + 1 := by simp
  rw [hs] at D
  have HB := Lib.hid hb
  have d0 := fun o => (D.alloc o).c0; have d1 := fun o => (D.alloc o).c1; have d2 := fun o => (D.alloc o).c2; have d3 := fun o => (D.alloc o).c3; have df := fun o i => (D.alloc o).fr i
  clear hb D hs
  go_wp2_with fail
  refine (valid_calls _ a u0 u1 m0 m1 r _ (PBlk.new _ _ _ _ _ _ _)).mono ?_
  rintro e w2 ⟨rfl, n, rfl⟩
  rw [HV.out]
  go_wp2_with fail
  refine bodyPost_ret (v := .tuple #[badD, .int .i64 1]) (by simp [results, Try.results26, go_sem, badD, *]) rfl ⟨rfl, ?_⟩
  refine Below.setCell (Below.setCell (Below.setCell (Below.setCell ?_ (by simp) _) (by simp) _) (by simp) _) (by simp) _
  exact pw_below_drewN (below_alloc (below_then (below_alloc (below_alloc (Below.refl _ _) _) _) (by simp; omega) HB.out) _) _
end Go.Proofs.Ytfjboaanpiceaaa.P
