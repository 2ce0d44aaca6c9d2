import Derived.Test.YtfjboaanpiceaaaExt
import Derived.Test.YtfjboaanpiceaaaPx5
namespace Go.Proofs.Ytfjboaanpiceaaa.P
open Go.RowKit Go.Proofs.YtfjboaanpiceaaaW.PrintWords Go.Proofs.YtfjboaanpiceaaaW.PrintLast Go.Proofs.YtfjboaanpiceaaaW.PrintMore
set_option linter.unusedVariables false
set_option linter.unusedSimpArgs false

/-- Two slices of two cells. -/
structure Two (w : World) (b1 o1 c1 b2 o2 c2 : Nat) (u0 u1 : Bool) (m0 m1 : Int) : Prop where
  k1 : 2 ≤ c1
  k2 : 2 ≤ c2
  x0 : w.cell? ⟨b1, o1, none⟩ = some (.bool u0)
  x1 : w.cell? ⟨b1, o1 + 1, none⟩ = some (.bool u1)
  y0 : w.cell? ⟨b2, o2, none⟩ = some (.int .i64 m0)
  y1 : w.cell? ⟨b2, o2 + 1, none⟩ = some (.int .i64 m1)
theorem Two.below {w w' : World} {b1 o1 c1 b2 o2 c2 : Nat} {u0 u1 : Bool} {m0 m1 : Int} (h : Two w b1 o1 c1 b2 o2 c2 u0 u1 m0 m1) (hb : Below w.heap.size w w') : Two w' b1 o1 c1 b2 o2 c2 u0 u1 m0 m1 :=
  ⟨h.k1, h.k2, pw_cell_below hb h.x0, pw_cell_below hb h.x1, pw_cell_below hb h.y0, pw_cell_below hb h.y1⟩
theorem Two.C1 {w : World} {b1 o1 c1 b2 o2 c2 : Nat} {u0 u1 : Bool} {m0 m1 : Int} (h : Two w b1 o1 c1 b2 o2 c2 u0 u1 m0 m1) : Kd.C Kd.bool w (some ⟨b1, o1, none⟩) [u0, u1].length [u0, u1] := C_twob h.x0 h.x1
theorem Two.C2 {w : World} {b1 o1 c1 b2 o2 c2 : Nat} {u0 u1 : Bool} {m0 m1 : Int} (h : Two w b1 o1 c1 b2 o2 c2 u0 u1 m0 m1) : Kd.C (Kd.int .i64) w (some ⟨b2, o2, none⟩) [m0, m1].length [m0, m1] := C_two h.y0 h.y1
theorem V_bools {w : World} {e B : Nat} {ok : Nat → Prop} {v : Value} {x y : Bool} (h : Kd.V Kd.bool e w B ok v [x, y]) : ∃ b o c, v = .slice (some ⟨b, o, none⟩) 2 c ∧ 2 ≤ c ∧ w.cell? ⟨b, o, none⟩ = some (.bool x) ∧ w.cell? ⟨b, o + 1, none⟩ = some (.bool y) := by
  obtain ⟨A, c, rfl, hl, hf⟩ := h
  obtain ⟨b, o, rfl, hc⟩ := C_bools (Kd.F_now hf)
  exact ⟨b, o, c, rfl, hl, by simpa [Addr.add] using hc 0 _ rfl, by simpa [Addr.add] using hc 1 _ rfl⟩
theorem V_ints {w : World} {e B : Nat} {ok : Nat → Prop} {v : Value} {x y : Int} (h : Kd.V (Kd.int .i64) e w B ok v [x, y]) : ∃ b o c, v = .slice (some ⟨b, o, none⟩) 2 c ∧ 2 ≤ c ∧ w.cell? ⟨b, o, none⟩ = some (.int .i64 x) ∧ w.cell? ⟨b, o + 1, none⟩ = some (.int .i64 y) := by
  obtain ⟨A, c, rfl, hl, hf⟩ := h
  obtain ⟨b, o, rfl, hc⟩ := C_ints (Kd.F_now hf)
  exact ⟨b, o, c, rfl, hl, by simpa [Addr.add] using hc 0 _ rfl, by simpa [Addr.add] using hc 1 _ rfl⟩
def RTwo (a : Int) (u0 u1 : Bool) (m0 m1 : Int) (r : Bool) (w : World) (e : Ending) (w' : World) : Prop := ∃ b1 o1 c1 b2 o2 c2, e = .returned (.tuple #[.agg #[.int .i64 a, .slice (some ⟨b1, o1, none⟩) 2 c1, .slice (some ⟨b2, o2, none⟩) 2 c2, .bool r], .int .i64 0]) ∧ Two w' b1 o1 c1 b2 o2 c2 u0 u1 m0 m1 ∧ Below w.heap.size w w'
def RErr (c : Int) (w : World) (e : Ending) (w' : World) : Prop := ∃ A1 k1 A2 k2, e = .returned (.tuple #[.agg #[.int .i64 0, .slice A1 0 k1, .slice A2 0 k2, .bool false], .int .i64 c]) ∧ Below w.heap.size w w'
def ATwo (a : Int) (u0 u1 : Bool) (m0 m1 : Int) (r d : Bool) (w : World) (e : Ending) (w' : World) : Prop := ∃ b1 o1 c1 b2 o2 c2, e = .returned (.tuple #[.agg #[.int .i64 a, .slice (some ⟨b1, o1, none⟩) 2 c1, .slice (some ⟨b2, o2, none⟩) 2 c2, .bool r], .bool d, .int .i64 0]) ∧ Two w' b1 o1 c1 b2 o2 c2 u0 u1 m0 m1 ∧ Below w.heap.size w w'
def AErr (c : Int) (w : World) (e : Ending) (w' : World) : Prop := ∃ A1 k1 A2 k2, e = .returned (.tuple #[.agg #[.int .i64 0, .slice A1 0 k1, .slice A2 0 k2, .bool false], .bool false, .int .i64 c]) ∧ Below w.heap.size w w'
theorem new_two (w : World) : Calls Try.prog 21 #[] w fun e w' => ∃ b1 o1 c1 b2 o2 c2, e = .returned (.agg #[.int .i64 0, .slice (some ⟨b1, o1, none⟩) 2 c1, .slice (some ⟨b2, o2, none⟩) 2 c2, .bool false]) ∧ Two w' b1 o1 c1 b2 o2 c2 true true 0 0 ∧ Below w.heap.size w w' := by
  refine (mirror_New.calls 0 [true, true] [0, 0] false w rfl).mono ?_
  rintro e w' ⟨v1, v2, he, h1, h2, hb⟩
  obtain ⟨A1, c1, rfl, hl1, hc1⟩ := Kd.R_reads h1
  obtain ⟨A2, c2, rfl, hl2, hc2⟩ := Kd.R_reads h2
  obtain ⟨b1, o1, rfl, k1⟩ := C_bools hc1
  obtain ⟨b2, o2, rfl, k2⟩ := C_ints hc2
  exact ⟨b1, o1, c1, b2, o2, c2, he, ⟨hl1, hl2, by simpa [Addr.add] using k1 0 _ rfl, by simpa [Addr.add] using k1 1 _ rfl, by simpa [Addr.add] using k2 0 _ rfl, by simpa [Addr.add] using k2 1 _ rfl⟩, hb⟩
theorem check_two (a : Int) (b1 o1 c1 b2 o2 c2 : Nat) (r : Bool) (u0 u1 : Bool) (m0 m1 : Int) (w : World) (ht : Two w b1 o1 c1 b2 o2 c2 u0 u1 m0 m1) :
    Calls Try.prog 23 #[.agg #[.int .i64 a, .slice (some ⟨b1, o1, none⟩) 2 c1, .slice (some ⟨b2, o2, none⟩) 2 c2, .bool r]] w fun e w' => e = .returned (.int .i64 (if validB a u0 u1 m0 m1 r then 0 else 1)) ∧ Below w.heap.size w w' :=
  mirror_Check.calls a _ c1 [u0, u1] _ c2 [m0, m1] r _ w ht.C1 ht.k1 ht.C2 ht.k2 rfl

theorem crash_two (a : Int) (b1 o1 c1 b2 o2 c2 : Nat) (r : Bool) (u0 u1 : Bool) (m0 m1 : Int) (i : Int) (a' : Int) (v0 v1 : Bool) (n0 n1 : Int) (r' : Bool) (w : World) (ht : Two w b1 o1 c1 b2 o2 c2 u0 u1 m0 m1) (h : mirror_Crash.f a [u0, u1] [m0, m1] r i = some (a', [v0, v1], [n0, n1], r', 0)) :
    Calls Try.prog 14 #[.agg #[.int .i64 a, .slice (some ⟨b1, o1, none⟩) 2 c1, .slice (some ⟨b2, o2, none⟩) 2 c2, .bool r], .int .i64 i] w (RTwo a' v0 v1 n0 n1 r' w) := by
  refine (mirror_Crash.calls a _ c1 [u0, u1] _ c2 [m0, m1] r i _ _ _ _ _ w ht.C1 ht.k1 ht.C2 ht.k2 h).mono ?_
  rintro e w' ⟨q1, q2, he, h1, h2, hb⟩
  obtain ⟨b1', o1', c1', rfl, k1, x0, x1⟩ := V_bools h1
  obtain ⟨b2', o2', c2', rfl, k2, y0, y1⟩ := V_ints h2
  exact ⟨b1', o1', c1', b2', o2', c2', by rw [he], ⟨k1, k2, x0, x1, y0, y1⟩, hb⟩
theorem crash_err (a : Int) (A1 : Option Addr) (c1 : Nat) (l1 : List Bool) (A2 : Option Addr) (c2 : Nat) (l2 : List Int) (r : Bool) (i : Int) (c : Int) (w : World) (hr1 : Kd.C Kd.bool w A1 l1.length l1) (hc1 : l1.length ≤ c1) (hr2 : Kd.C (Kd.int .i64) w A2 l2.length l2) (hc2 : l2.length ≤ c2) (hc : ¬ c = 0) (h : mirror_Crash.f a l1 l2 r i = some (0, [], [], false, c)) :
    Calls Try.prog 14 #[.agg #[.int .i64 a, .slice A1 l1.length c1, .slice A2 l2.length c2, .bool r], .int .i64 i] w (RErr c w) := by
  refine (mirror_Crash.calls a _ c1 l1 _ c2 l2 r i _ _ _ _ _ w hr1 hc1 hr2 hc2 h).mono ?_
  rintro e w' ⟨q1, q2, he, ⟨A1', k1, rfl, _, _⟩, ⟨A2', k2, rfl, _, _⟩, hb⟩
  exact ⟨A1', k1, A2', k2, by rw [he]; rfl, hb⟩

theorem arm_two (a : Int) (b1 o1 c1 b2 o2 c2 : Nat) (r : Bool) (u0 u1 : Bool) (m0 m1 : Int) (a' : Int) (v0 v1 : Bool) (n0 n1 : Int) (r' : Bool) (w : World) (ht : Two w b1 o1 c1 b2 o2 c2 u0 u1 m0 m1) (h : mirror_Arm.f a [u0, u1] [m0, m1] r = some (a', [v0, v1], [n0, n1], r', 0)) :
    Calls Try.prog 16 #[.agg #[.int .i64 a, .slice (some ⟨b1, o1, none⟩) 2 c1, .slice (some ⟨b2, o2, none⟩) 2 c2, .bool r]] w (RTwo a' v0 v1 n0 n1 r' w) := by
  refine (mirror_Arm.calls a _ c1 [u0, u1] _ c2 [m0, m1] r _ _ _ _ _ w ht.C1 ht.k1 ht.C2 ht.k2 h).mono ?_
  rintro e w' ⟨q1, q2, he, h1, h2, hb⟩
  obtain ⟨b1', o1', c1', rfl, k1, x0, x1⟩ := V_bools h1
  obtain ⟨b2', o2', c2', rfl, k2, y0, y1⟩ := V_ints h2
  exact ⟨b1', o1', c1', b2', o2', c2', by rw [he], ⟨k1, k2, x0, x1, y0, y1⟩, hb⟩
theorem arm_err (a : Int) (A1 : Option Addr) (c1 : Nat) (l1 : List Bool) (A2 : Option Addr) (c2 : Nat) (l2 : List Int) (r : Bool) (c : Int) (w : World) (hr1 : Kd.C Kd.bool w A1 l1.length l1) (hc1 : l1.length ≤ c1) (hr2 : Kd.C (Kd.int .i64) w A2 l2.length l2) (hc2 : l2.length ≤ c2) (hc : ¬ c = 0) (h : mirror_Arm.f a l1 l2 r = some (0, [], [], false, c)) :
    Calls Try.prog 16 #[.agg #[.int .i64 a, .slice A1 l1.length c1, .slice A2 l2.length c2, .bool r]] w (RErr c w) := by
  refine (mirror_Arm.calls a _ c1 l1 _ c2 l2 r _ _ _ _ _ w hr1 hc1 hr2 hc2 h).mono ?_
  rintro e w' ⟨q1, q2, he, ⟨A1', k1, rfl, _, _⟩, ⟨A2', k2, rfl, _, _⟩, hb⟩
  exact ⟨A1', k1, A2', k2, by rw [he]; rfl, hb⟩

theorem restore_two (a : Int) (b1 o1 c1 b2 o2 c2 : Nat) (r : Bool) (u0 u1 : Bool) (m0 m1 : Int) (i : Int) (a' : Int) (v0 v1 : Bool) (n0 n1 : Int) (r' : Bool) (w : World) (ht : Two w b1 o1 c1 b2 o2 c2 u0 u1 m0 m1) (h : mirror_Restore.f a [u0, u1] [m0, m1] r i = some (a', [v0, v1], [n0, n1], r', 0)) :
    Calls Try.prog 18 #[.agg #[.int .i64 a, .slice (some ⟨b1, o1, none⟩) 2 c1, .slice (some ⟨b2, o2, none⟩) 2 c2, .bool r], .int .i64 i] w (RTwo a' v0 v1 n0 n1 r' w) := by
  refine (mirror_Restore.calls a _ c1 [u0, u1] _ c2 [m0, m1] r i _ _ _ _ _ w ht.C1 ht.k1 ht.C2 ht.k2 h).mono ?_
  rintro e w' ⟨q1, q2, he, h1, h2, hb⟩
  obtain ⟨b1', o1', c1', rfl, k1, x0, x1⟩ := V_bools h1
  obtain ⟨b2', o2', c2', rfl, k2, y0, y1⟩ := V_ints h2
  exact ⟨b1', o1', c1', b2', o2', c2', by rw [he], ⟨k1, k2, x0, x1, y0, y1⟩, hb⟩
theorem restore_err (a : Int) (A1 : Option Addr) (c1 : Nat) (l1 : List Bool) (A2 : Option Addr) (c2 : Nat) (l2 : List Int) (r : Bool) (i : Int) (c : Int) (w : World) (hr1 : Kd.C Kd.bool w A1 l1.length l1) (hc1 : l1.length ≤ c1) (hr2 : Kd.C (Kd.int .i64) w A2 l2.length l2) (hc2 : l2.length ≤ c2) (hc : ¬ c = 0) (h : mirror_Restore.f a l1 l2 r i = some (0, [], [], false, c)) :
    Calls Try.prog 18 #[.agg #[.int .i64 a, .slice A1 l1.length c1, .slice A2 l2.length c2, .bool r], .int .i64 i] w (RErr c w) := by
  refine (mirror_Restore.calls a _ c1 l1 _ c2 l2 r i _ _ _ _ _ w hr1 hc1 hr2 hc2 h).mono ?_
  rintro e w' ⟨q1, q2, he, ⟨A1', k1, rfl, _, _⟩, ⟨A2', k2, rfl, _, _⟩, hb⟩
  exact ⟨A1', k1, A2', k2, by rw [he]; rfl, hb⟩

theorem apply_two (a : Int) (b1 o1 c1 b2 o2 c2 : Nat) (r : Bool) (u0 u1 : Bool) (m0 m1 : Int) (a' : Int) (v0 v1 : Bool) (n0 n1 : Int) (r' : Bool) (w : World) (ht : Two w b1 o1 c1 b2 o2 c2 u0 u1 m0 m1) (h : applyF a [u0, u1] [m0, m1] r = some (a', [v0, v1], [n0, n1], r', 0)) :
    Calls Try.prog 12 #[.agg #[.int .i64 a, .slice (some ⟨b1, o1, none⟩) 2 c1, .slice (some ⟨b2, o2, none⟩) 2 c2, .bool r]] w (ATwo a' v0 v1 n0 n1 r' (!r) w) := by
  refine (mirror_Apply.calls a _ c1 [u0, u1] _ c2 [m0, m1] r _ _ _ _ _ _ w ht.C1 ht.k1 ht.C2 ht.k2 (by unfold mirror_Apply.f; rw [h]; rfl)).mono ?_
  rintro e w' ⟨q1, q2, he, h1, h2, hb⟩
  obtain ⟨b1', o1', c1', rfl, k1, x0, x1⟩ := V_bools h1
  obtain ⟨b2', o2', c2', rfl, k2, y0, y1⟩ := V_ints h2
  exact ⟨b1', o1', c1', b2', o2', c2', by rw [he]; simp, ⟨k1, k2, x0, x1, y0, y1⟩, hb⟩
theorem apply_err (a : Int) (A1 : Option Addr) (c1 : Nat) (l1 : List Bool) (A2 : Option Addr) (c2 : Nat) (l2 : List Int) (r : Bool) (c : Int) (w : World) (hr1 : Kd.C Kd.bool w A1 l1.length l1) (hc1 : l1.length ≤ c1) (hr2 : Kd.C (Kd.int .i64) w A2 l2.length l2) (hc2 : l2.length ≤ c2) (hc : ¬ c = 0) (h : applyF a l1 l2 r = some (0, [], [], false, c)) :
    Calls Try.prog 12 #[.agg #[.int .i64 a, .slice A1 l1.length c1, .slice A2 l2.length c2, .bool r]] w (AErr c w) := by
  refine (mirror_Apply.calls a _ c1 l1 _ c2 l2 r _ _ _ _ _ _ w hr1 hc1 hr2 hc2 (by unfold mirror_Apply.f; rw [h]; rfl)).mono ?_
  rintro e w' ⟨q1, q2, he, ⟨A1', k1, rfl, _, _⟩, ⟨A2', k2, rfl, _, _⟩, hb⟩
  exact ⟨A1', k1, A2', k2, by rw [he]; simp [hc], hb⟩

end Go.Proofs.Ytfjboaanpiceaaa.P
