import Derived.Test.YtbfhohpbldadbaaExtF
import Derived.Lib.SliceRun
namespace Go.Proofs.Ytbfhohpbldadbaa.P
open Go.RowKit Go.Proofs.YtbfhohpbldadbaaW.PrintWords Go.Proofs.YtbfhohpbldadbaaW.PrintLast Go.Proofs.YtbfhohpbldadbaaW.PrintMore
set_option linter.unusedVariables false
set_option linter.unusedSimpArgs false
theorem R_empty {α : Type} (d : Kd α) (e : Nat) (w : World) (base : Nat) (hb : base ≤ w.heap.size) : Kd.R d e (w.alloc (.cells #[] e)) base (fun _ => True) (.slice (some ⟨w.heap.size, 0, none⟩) 0 0) [] := by
  refine ⟨fun _ _ => trivial, [], ?_, ?_⟩
  · simpa using World.ownsRow_made (e := e) (size := d.sz) w #[] 0 hb (Nat.zero_le _) (by simp)
  · exact Reps.none _ _
set_option maxHeartbeats 1000000 in
set_option maxRecDepth 100000 in
theorem cloneM (A : Option Addr) (c : Nat) (xs : List S33) (w : World) (hr : Kd.C k33 w A xs.length xs) (hl : xs.length * 48 ≤ 140737488355328) :
    Calls Try.prog 59 #[.slice A xs.length c] w fun e w' => ∃ v', e = .returned v' ∧ Kd.R k33 33 w' w.heap.size (fun _ => True) v' xs ∧ Below w.heap.size w w' := by
  have HR := Lib.hid hr
  clear hr
  have q22 : ∀ (w : World) (a : Option Addr) (n c n' c' : Nat), (binOp .eql 22 (.slice a n c) (.slice none n' c')).run Try.prog w = .ok (.bool a.isNone) w := fun w a n c n' c' => Lib.run_eql_slice_nil w _ _ a n c n' c' Try.underlying22
  cases A with
  | none =>
    have hn : xs = [] := by
      have h := HR.out.2.2
      cases xs with
      | nil => rfl
      | cons x xs => obtain ⟨ad, h, _⟩ := h (by simp); cases h
    subst hn
    clear HR
    go_enter Try.func59, Try.ntmps59
    go_wp2_with fail
    go_ret
    exact ⟨_, rfl, Kd.R_nil _ _ _ _ _, Below.refl _ _⟩
  | some ad =>
    go_enter Try.func59, Try.ntmps59
    go_wp2_with ((with_reducible refine gate_builtin (b := .append) (xs := #[.tmp 5, .tmp 6]) rfl ?_); at_builtin; refine Kd.R_append_rows k33 (w0 := w) w.heap.size rfl (.tmp 5) (.tmp 6) 22 33 (.agg #[(.int .i64 0), (.int .i64 0), (.int .i64 0), (.string ⟨#[]⟩), (.int .i64 0)]) 48 rfl Try.underlying22 info33 rfl (by decide) (by omega) (.slice (some ⟨w.heap.size, 0, none⟩) 0 0) [] xs (some ad) xs.length c (fun _ => True) (fun _ => False) rfl rfl (R_empty k33 33 w w.heap.size (Nat.le_refl _)) (Kd.C_below HR.out (below_one _ _)) (fun _ _ h => h) (fun _ h => h.elim) (fun _ _ => trivial) (below_one _ _) (by simp) (by simpa using hl) ?_; intro v' w1 ho hb hg hat)
    go_ret
    exact ⟨v', rfl, by simpa using ho, hb⟩
set_option maxHeartbeats 1000000 in
set_option maxRecDepth 100000 in
theorem cloneR (A : Option Addr) (c : Nat) (xs : List S39) (w : World) (hr : Kd.C k39 w A xs.length xs) (hl : xs.length * 72 ≤ 140737488355328) :
    Calls Try.prog 72 #[.slice A xs.length c] w fun e w' => ∃ v', e = .returned v' ∧ Kd.R k39 39 w' w.heap.size (fun _ => True) v' xs ∧ Below w.heap.size w w' := by
  have HR := Lib.hid hr
  clear hr
  have q22 : ∀ (w : World) (a : Option Addr) (n c n' c' : Nat), (binOp .eql 28 (.slice a n c) (.slice none n' c')).run Try.prog w = .ok (.bool a.isNone) w := fun w a n c n' c' => Lib.run_eql_slice_nil w _ _ a n c n' c' Try.underlying28
  cases A with
  | none =>
    have hn : xs = [] := by
      have h := HR.out.2.2
      cases xs with
      | nil => rfl
      | cons x xs => obtain ⟨ad, h, _⟩ := h (by simp); cases h
    subst hn
    clear HR
    go_enter Try.func72, Try.ntmps72
    go_wp2_with fail
    go_ret
    exact ⟨_, rfl, Kd.R_nil _ _ _ _ _, Below.refl _ _⟩
  | some ad =>
    go_enter Try.func72, Try.ntmps72
    go_wp2_with ((with_reducible refine gate_builtin (b := .append) (xs := #[.tmp 5, .tmp 6]) rfl ?_); at_builtin; refine Kd.R_append_rows k39 (w0 := w) w.heap.size rfl (.tmp 5) (.tmp 6) 28 39 (.agg #[(.int .i64 0), (.int .i64 0), (.int .i64 0), (.string ⟨#[]⟩), (.int .i64 0), (.int .i64 0), (.int .i64 0), (.int .i64 0)]) 72 rfl Try.underlying28 info39 rfl (by decide) (by omega) (.slice (some ⟨w.heap.size, 0, none⟩) 0 0) [] xs (some ad) xs.length c (fun _ => True) (fun _ => False) rfl rfl (R_empty k39 39 w w.heap.size (Nat.le_refl _)) (Kd.C_below HR.out (below_one _ _)) (fun _ _ h => h) (fun _ h => h.elim) (fun _ _ => trivial) (below_one _ _) (by simp) (by simpa using hl) ?_; intro v' w1 ho hb hg hat)
    go_ret
    exact ⟨v', rfl, by simpa using ho, hb⟩
end Go.Proofs.Ytbfhohpbldadbaa.P
