import Derived.Test.YtfjboaanpiceaaaExtC
import Derived.Test.YtfjboaanpiceaaaExtM
namespace Go.Proofs.Ytfjboaanpiceaaa.P
open Go.RowKit Go.Proofs.YtfjboaanpiceaaaW.PrintWords Go.Proofs.YtfjboaanpiceaaaW.PrintLast Go.Proofs.YtfjboaanpiceaaaW.PrintMore
set_option linter.unusedVariables false
set_option linter.unusedSimpArgs false

def Good (a : Int) (u0 u1 : Bool) (m0 m1 : Int) (r : Bool) (w : World) (e : Ending) (w' : World) : Prop := ∃ g, e = .returned (.tuple #[.agg #[.int .i64 a, .slice (some ⟨g, 1, none⟩) 2 2, .slice (some ⟨g, 3, none⟩) 2 2, .bool r], .int .i64 0]) ∧ PBlk w' g a u0 u1 m0 m1 r ∧ w.heap.size ≤ g ∧ Below w.heap.size w w'
theorem DBlk.new0 (w : World) : DBlk (w.alloc (.cells #[.int .i64 0, .slice none 0 0, .slice none 0 0, .bool false] 25)) w.heap.size 0 (.slice none 0 0) (.slice none 0 0) false := heap_alloc_new w _
theorem with_36 (p : Value) (w : World) (hp : ∃ ad, p = .pointer (some ad)) : Calls Try.prog 36 #[p] w fun e w' => e = .returned (.func (.func 30) #[p] #[]) ∧ w = w' := by
  obtain ⟨ad, rfl⟩ := hp
  have hmf : ∀ (fn : Fn) (first cap : Array Value) (w : World), (Instr.makeFunc fn first cap).run Try.prog w = .ok (.func fn first cap) w := fun _ _ _ _ => rfl
  go_enter Try.func36, Try.ntmps36
  go_wp2
  go_ret
  exact ⟨rfl, rfl⟩
theorem with_38 (p : Value) (w : World) (hp : ∃ ad, p = .pointer (some ad)) : Calls Try.prog 38 #[p] w fun e w' => e = .returned (.func (.func 39) #[p] #[]) ∧ w = w' := by
  obtain ⟨ad, rfl⟩ := hp
  have hmf : ∀ (fn : Fn) (first cap : Array Value) (w : World), (Instr.makeFunc fn first cap).run Try.prog w = .ok (.func fn first cap) w := fun _ _ _ _ => rfl
  go_enter Try.func38, Try.ntmps38
  go_wp2
  go_ret
  exact ⟨rfl, rfl⟩
theorem with_41 (p : Value) (w : World) (hp : ∃ ad, p = .pointer (some ad)) : Calls Try.prog 41 #[p] w fun e w' => e = .returned (.func (.func 42) #[p] #[]) ∧ w = w' := by
  obtain ⟨ad, rfl⟩ := hp
  have hmf : ∀ (fn : Fn) (first cap : Array Value) (w : World), (Instr.makeFunc fn first cap).run Try.prog w = .ok (.func fn first cap) w := fun _ _ _ _ => rfl
  go_enter Try.func41, Try.ntmps41
  go_wp2
  go_ret
  exact ⟨rfl, rfl⟩
theorem with_29 (g : Nat) (a : Int) (u0 u1 : Bool) (m0 m1 : Int) (r : Bool) (w : World) (hp : PBlk w g a u0 u1 m0 m1 r) : Calls Try.prog 29 #[.pointer (some ⟨g, 0, none⟩)] w fun e w' => e = .returned (.func (.func (if r then 30 else 31)) #[.pointer (some ⟨g, 0, none⟩)] #[]) ∧ w = w' := by
  have hmf : ∀ (fn : Fn) (first cap : Array Value) (w : World), (Instr.makeFunc fn first cap).run Try.prog w = .ok (.func fn first cap) w := fun _ _ _ _ => rfl
  have c5 := hp.c5
  clear hp
  cases r
  · go_enter Try.func29, Try.ntmps29
    go_wp2
    go_ret
    exact ⟨rfl, rfl⟩
  · go_enter Try.func29, Try.ntmps29
    go_wp2
    go_ret
    exact ⟨rfl, rfl⟩
theorem PBlk.keep {w w' : World} {g : Nat} {a : Int} {u0 u1 : Bool} {m0 m1 : Int} {r : Bool} (h : PBlk w g a u0 u1 m0 m1 r) (hb : Below w.heap.size w w') : PBlk w' g a u0 u1 m0 m1 r := h.below hb
theorem PBlk.far {w : World} {g : Nat} {a : Int} {u0 u1 : Bool} {m0 m1 : Int} {r : Bool} (h : PBlk w g a u0 u1 m0 m1 r) {p : Addr} (hne : g ≠ p.block) (u : Value) : PBlk (w.setCell p u) g a u0 u1 m0 m1 r := (Below.heap_setCell w p u g hne).trans h

end Go.Proofs.Ytfjboaanpiceaaa.P
