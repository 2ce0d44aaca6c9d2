import Derived.Test.YtbfhohpbldadbaaExtT
namespace Go.Proofs.Ytbfhohpbldadbaa.P
open Go Go.RowKit Go.Proofs.YtbfhohpbldadbaaW.PrintWords Go.Proofs.YtbfhohpbldadbaaW.PrintLast Go.Proofs.YtbfhohpbldadbaaW.PrintMore
set_option linter.unusedVariables false
set_option linter.unusedSimpArgs false
def meter_Start.f (l0 : List (S33)) (a1_0 : Int) (a1_1 : Int) (a1_2 : Int) (a1_3 : ByteArray) (a1_4 : Int) : Option ((List (S33)) × Int) := some (startF l0 ⟨a1_0, a1_1, a1_2, a1_3, a1_4⟩)
theorem meter_Start.calls (A0 : Option Addr) (c0 : Nat) (l0 : List (S33)) (a1_0 : Int) (a1_1 : Int) (a1_2 : Int) (a1_3 : ByteArray) (a1_4 : Int) (r1 : List (S33)) (r2 : Int) (w : World) (hr0 : Kd.C k33 w A0 l0.length l0) (hc0 : l0.length ≤ c0) (h : meter_Start.f l0 a1_0 a1_1 a1_2 a1_3 a1_4 = some (r1, r2)) :
    Calls Try.prog 23 #[.slice A0 l0.length c0, .agg #[.int .i64 a1_0, .int .i64 a1_1, .int .i64 a1_2, .string a1_3, .int .i64 a1_4]] w fun e w' => ∃ v0_ : Value, e = .returned (.tuple #[v0_, .int .i64 r2]) ∧ Kd.V k33 33 w' w.heap.size (fun k_ => (w.heap.size ≤ k_)) v0_ r1 ∧ Below w.heap.size w w' := by
  have h' : startF l0 ⟨a1_0, a1_1, a1_2, a1_3, a1_4⟩ = (r1, r2) := Option.some.inj h
  refine (start_calls A0 c0 l0 ⟨a1_0, a1_1, a1_2, a1_3, a1_4⟩ w hr0).mono ?_
  rw [h']
  rintro e w' ⟨v, he, hR, hb⟩
  exact ⟨v, he, Kd.R_V (Kd.R_mono (Kd.R_bound hR) (fun kk hk => hk.2.1)), hb⟩
def meter_Advance.f (l0 : List (S33)) (l1_0 : List (S110)) (a2 : Int) : Option ((List (S33)) × (List (S39)) × Int) := if l0.length ≤ 1000000 then some (advanceF l0 l1_0 (nxB l1_0) (rtB l1_0) a2 (chkB l1_0)) else none
theorem meter_Advance.calls (A0 : Option Addr) (c0 : Nat) (l0 : List (S33)) (A1_0 : Option Addr) (c1_0 : Nat) (l1_0 : List (S110)) (a2 : Int) (r1 : List (S33)) (r2 : List (S39)) (r3 : Int) (w : World) (hr0 : Kd.C k33 w A0 l0.length l0) (hc0 : l0.length ≤ c0) (hr1_0 : Kd.C k110 w A1_0 l1_0.length l1_0) (hc1_0 : l1_0.length ≤ c1_0) (h : meter_Advance.f l0 l1_0 a2 = some (r1, r2, r3)) :
    Calls Try.prog 25 #[.slice A0 l0.length c0, .agg #[.slice A1_0 l1_0.length c1_0], .int .i64 a2] w fun e w' => ∃ v0_ v1_ : Value, e = .returned (.tuple #[v0_, v1_, .int .i64 r3]) ∧ Kd.V k33 33 w' w.heap.size (fun k_ => (w.heap.size ≤ k_)) v0_ r1 ∧ Kd.V k39 39 w' w.heap.size (fun k_ => (w.heap.size ≤ k_)) v1_ r2 ∧ Below w.heap.size w w' := by
  unfold meter_Advance.f at h
  split at h
  · next hl =>
    have h' := Option.some.inj h
    have hc := Advance_calls A0 c0 l0 A1_0 c1_0 l1_0 (nxB l1_0) (rtB l1_0) a2 (chkB l1_0) 30 w hr0 hr1_0 hc1_0 (check_eq l1_0 30 (by omega)) (fun hz => tar_of hz (by omega)) hl
    rw [h'] at hc
    exact hc
  · cases h
def meter_Stop.f (l0 : List (S33)) (l1_0 : List (S110)) (a2 : Int) (a3 : Int) : Option ((List (S33)) × (List (S39)) × Int) := if l0.length ≤ 1000000 then some (stopF l0 l1_0 (nxB l1_0) (rtB l1_0) a2 a3 (chkB l1_0)) else none
theorem meter_Stop.calls (A0 : Option Addr) (c0 : Nat) (l0 : List (S33)) (A1_0 : Option Addr) (c1_0 : Nat) (l1_0 : List (S110)) (a2 : Int) (a3 : Int) (r1 : List (S33)) (r2 : List (S39)) (r3 : Int) (w : World) (hr0 : Kd.C k33 w A0 l0.length l0) (hc0 : l0.length ≤ c0) (hr1_0 : Kd.C k110 w A1_0 l1_0.length l1_0) (hc1_0 : l1_0.length ≤ c1_0) (h : meter_Stop.f l0 l1_0 a2 a3 = some (r1, r2, r3)) :
    Calls Try.prog 19 #[.slice A0 l0.length c0, .agg #[.slice A1_0 l1_0.length c1_0], .int .i64 a2, .int .i64 a3] w fun e w' => ∃ v0_ v1_ : Value, e = .returned (.tuple #[v0_, v1_, .int .i64 r3]) ∧ Kd.V k33 33 w' w.heap.size (fun k_ => (w.heap.size ≤ k_)) v0_ r1 ∧ Kd.V k39 39 w' w.heap.size (fun k_ => (w.heap.size ≤ k_)) v1_ r2 ∧ Below w.heap.size w w' := by
  unfold meter_Stop.f at h
  split at h
  · next hl =>
    have h' := Option.some.inj h
    have hc := Stop_calls A0 c0 l0 A1_0 c1_0 l1_0 (nxB l1_0) (rtB l1_0) a2 a3 (chkB l1_0) 30 w hr0 hr1_0 hc1_0 (check_eq l1_0 30 (by omega)) (fun hz => tar_of hz (by omega)) hl
    rw [h'] at hc
    exact hc
  · cases h
end Go.Proofs.Ytbfhohpbldadbaa.P
