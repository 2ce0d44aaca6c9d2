import Derived.Test.YtbfhohpbldadbaaPx0
import Derived.Lib.Hide
import Derived.WalkSpells
import Derived.Deep.QuietTactic
import Derived.BigQuiet
namespace Go.Proofs.Ytbfhohpbldadbaa.P
open Go.RowKit Go.Proofs.YtbfhohpbldadbaaW.PrintWords Go.Proofs.YtbfhohpbldadbaaW.PrintLast Go.Proofs.YtbfhohpbldadbaaW.PrintMore
set_option linter.unusedVariables false
set_option linter.unusedSimpArgs false

theorem al {w W : World} (h : Below w.heap.size w W) (o : Obj) : Below w.heap.size w (W.alloc o) := below_alloc h o
theorem bb {w w1 w2 : World} (h : Below w.heap.size w w1) (k : Below w1.heap.size w1 w2) : Below w.heap.size w w2 := below_then h h.size k
theorem below_one (w : World) (o : Obj) : Below w.heap.size w (w.alloc o) := below_alloc (Below.refl _ _) o

theorem any_take_succ {α : Type} {p : α → Bool} {xs : List α} {k : Nat} (hk : k < xs.length) (h : (xs.take k).any p = false) (h2 : p xs[k] = false) : (xs.take (k + 1)).any p = false := by
  rw [List.take_succ_eq_append_getElem hk, List.any_append, h]
  simp [h2]
theorem any_of_at {α : Type} {p : α → Bool} {xs : List α} {k : Nat} (hk : k < xs.length) (h2 : p xs[k] = true) : xs.any p = true := List.any_eq_true.2 ⟨xs[k], List.getElem_mem hk, h2⟩
theorem getD_at {α : Type} {xs : List α} {k : Nat} (hk : k < xs.length) (z : α) : xs.getD k z = xs[k] := by
  rw [List.getD_eq_getElem?_getD, List.getElem?_eq_getElem hk]; rfl

/-- A meter as a value. -/
def vM (m : S33) : Value := .agg #[.int .i64 m.f0, .int .i64 m.f1, .int .i64 m.f2, .string m.f3, .int .i64 m.f4]
/-- What a call with one meter answers. -/
def Pred (F : Nat) (lb : Array Value) (w : World) (xs : List S33) (p : S33 → Bool) : Prop :=
  ∀ m, m ∈ xs → ∀ W, Below w.heap.size w W → Calls Try.prog F (#[.agg #[.int .i64 m.f0, .int .i64 m.f1, .int .i64 m.f2, .string m.f3, .int .i64 m.f4]] ++ lb) W fun e W' => e = .returned (.bool (p m)) ∧ Below W.heap.size W W'
def SomeIdx (w : World) (P : Int → Prop) (e : Ending) (w' : World) : Prop := ∃ r : Int, e = .returned (.int .i64 r) ∧ P r ∧ Below w.heap.size w w'
/-- The cells of a meter at an address. -/
structure AtM (w : World) (a : Addr) (m : S33) : Prop where
  c0 : w.cell? a = some (.int .i64 m.f0)
  c1 : w.cell? ⟨a.block, a.off + 1, none⟩ = some (.int .i64 m.f1)
  c2 : w.cell? ⟨a.block, a.off + 2, none⟩ = some (.int .i64 m.f2)
  c3 : w.cell? ⟨a.block, a.off + 3, none⟩ = some (.string m.f3)
  c4 : w.cell? ⟨a.block, a.off + 4, none⟩ = some (.int .i64 m.f4)
theorem M_cell {w : World} {A : Option Addr} {n : Nat} {xs : List S33} (h : Kd.C k33 w A n xs) (i : Nat) (hi : i < n) (hl : i < xs.length) : ∃ ad, A = some ad ∧ AtM w (ad.add (i * 5)) xs[i] := by
  obtain ⟨ad, hA, h0, h1, h2, h3, h4⟩ := at_T33 h (i : Int) (by omega) (by omega)
  simp only [rd_T33, Int.toNat_natCast, getD_at hl] at h0 h1 h2 h3 h4
  exact ⟨ad, hA, h0, h1, h2, h3, h4⟩

/-- The value F is entered. -/
def Enters (F : Nat) : Prop := ∀ (args : Array Value) (w : World), (callFunc F args).run Try.prog w = .ok (.enter F args) w

set_option maxHeartbeats 1000000 in
set_option maxRecDepth 100000 in
theorem indexM (F : Nat) (lb : Array Value) (eg : Enters F) (A : Option Addr) (c : Nat) (xs : List S33) (p : S33 → Bool) (w : World) (hr : Kd.C k33 w A xs.length xs) (hp : Pred F lb w xs p) :
    Calls Try.prog 81 #[.slice A xs.length c, .func (.func F) #[] lb] w (SomeIdx w fun r => decide (0 ≤ r) = xs.any p) := by
  have hm : xs.length ≤ 9223372036854775807 := by
    have := hr.2.1; omega
  have HR := Lib.hid hr
  have HP := Lib.hid hp
  unfold Enters at eg
  clear hr hp
  go_enter Try.func81, Try.ntmps81
  go_wp2
  go_loopw [4, 5, 8] (fun _ _ i W => ∃ k : Nat, k ≤ xs.length ∧ i = .int .i64 k ∧ (xs.take k).any p = false ∧ Below w.heap.size w W) (fun _ _ i _ => xs.length - (intOf i).toNat)
  case atStart => exact ⟨0, Nat.zero_le _, rfl, rfl, Below.refl _ _⟩
  case round =>
    obtain ⟨k, hk, rfl, hno, hb⟩ := hrel
    have HN := Lib.hid hno
    have HB := Lib.hid hb
    clear hno hb
    by_cases hlt : k < xs.length
    · obtain ⟨ad, rfl, hat⟩ := M_cell (Kd.C_below HR.out HB.out) k hlt hlt
      obtain ⟨m, hm⟩ : ∃ m, m = xs[k] := ⟨_, rfl⟩
      rw [← hm] at hat
      have HM := Lib.hid hm
      have c0 := hat.c0; have c1 := hat.c1; have c2 := hat.c2; have c3 := hat.c3; have c4 := hat.c4
      clear hat hm
      go_wp2_with fail
      refine (HP.out m (by rw [HM.out]; exact List.getElem_mem hlt) wr HB.out).mono ?_
      rintro e w' ⟨rfl, hb⟩
      have HB2 := Lib.hid (bb HB.out hb)
      clear hb c0 c1 c2 c3 c4
      cases hpm : p m
      · have HF := Lib.hid (show p xs[k] = false by rw [← HM.out]; exact hpm)
        clear hpm
        go_wp2_with fail
        go_roundw
        case rel => exact ⟨k + 1, by omega, by go_num, any_take_succ hlt HN.out HF.out, HB2.out⟩
        case measure => simp [intOf]; omega
      · have HF := Lib.hid (show p xs[k] = true by rw [← HM.out]; exact hpm)
        clear hpm
        go_wp2_with fail
        go_ret
        exact ⟨k, rfl, by rw [any_of_at hlt HF.out]; simp, HB2.out⟩
    · go_wp2
      go_ret
      refine ⟨-1, rfl, ?_, HB.out⟩
      have h1 := HN.out
      rw [List.take_of_length_le (by omega)] at h1
      rw [h1]; rfl
theorem containsM (F : Nat) (lb : Array Value) (eg : Enters F) (A : Option Addr) (c : Nat) (xs : List S33) (p : S33 → Bool) (w : World) (hr : Kd.C k33 w A xs.length xs) (hp : Pred F lb w xs p) :
    Calls Try.prog 52 #[.slice A xs.length c, .func (.func F) #[] lb] w fun e w' => e = .returned (.bool (xs.any p)) ∧ Below w.heap.size w w' := by
  have HR := Lib.hid hr
  have HP := Lib.hid hp
  clear hr hp
  go_enter Try.func52, Try.ntmps52
  go_wp2_with fail
  refine (indexM F lb eg A c xs p w HR.out HP.out).mono ?_
  rintro e w' ⟨r, rfl, hQ, hb⟩
  have HQ := Lib.hid hQ
  have HB := Lib.hid hb
  clear hQ hb
  go_wp2_with fail
  go_ret
  exact ⟨by rw [← HQ.out]; rfl, HB.out⟩
/-! ### others -/
theorem I_cell {w : World} {A : Option Addr} {n : Nat} {xs : List Int} (h : Kd.C (Kd.int .i64) w A n xs) (i : Nat) (hi : i < n) (hl : i < xs.length) : ∃ ad, A = some ad ∧ w.cell? (ad.add i) = some (.int .i64 xs[i]) := by
  obtain ⟨ad, c, hA, hlc, hk, hc⟩ := Kd.C_get h 0 (i : Int) (by omega) (by omega)
  refine ⟨ad, hA, ?_⟩
  simp only [Int.toNat_natCast, getD_at hl] at hk hc
  have hk' : c = [.int .i64 xs[i]] := hk
  have := hc 0 (.int .i64 xs[i]) (by rw [hk']; rfl)
  simpa [Kd.int, Kd.scalar] using this
structure AtB (w : World) (a : Addr) (m : S110) : Prop where
  c0 : w.cell? a = some (.int .i64 m.f0)
  c1 : w.cell? ⟨a.block, a.off + 1, none⟩ = some (.int .i64 m.f1)
theorem B_cell {w : World} {A : Option Addr} {n : Nat} {xs : List S110} (h : Kd.C k110 w A n xs) (i : Nat) (hi : i < n) (hl : i < xs.length) : ∃ ad, A = some ad ∧ AtB w (ad.add (i * 2)) xs[i] := by
  obtain ⟨ad, hA, h0, h1⟩ := at_T110 h (i : Int) (by omega) (by omega)
  simp only [rd_T110, Int.toNat_natCast, getD_at hl] at h0 h1
  exact ⟨ad, hA, h0, h1⟩
/-- A cell that holds a slice of records. -/
structure AtL (w : World) (a : Addr) (A : Option Addr) (c : Nat) (l : List S39) : Prop where
  c0 : w.cell? a = some (.slice A l.length c)
  le : l.length ≤ c
  cc : Kd.C k39 w A l.length l
theorem L_cell {w : World} {A : Option Addr} {n : Nat} {xs : List (List S39)} (h : Kd.C (Kd.slice 39 k39) w A n xs) (i : Nat) (hi : i < n) (hl : i < xs.length) : ∃ ad A0 c0, A = some ad ∧ AtL w (ad.add i) A0 c0 xs[i] := by
  obtain ⟨ad, A0, c0, hA, h0, h1, h2⟩ := at_L7 h (i : Int) (by omega) (by omega)
  simp only [rd_L7, Int.toNat_natCast, getD_at hl] at h0 h1 h2
  exact ⟨ad, A0, c0, hA, h0, h1, h2⟩

/-- What a call with one element answers (ints). -/
def PredI (F : Nat) (lb : Array Value) (w : World) (xs : List Int) (p : Int → Bool) : Prop :=
  ∀ m, m ∈ xs → ∀ W, Below w.heap.size w W → Calls Try.prog F (#[.int .i64 m] ++ lb) W fun e W' => e = .returned (.bool (p m)) ∧ Below W.heap.size W W'

set_option maxHeartbeats 1000000 in
set_option maxRecDepth 100000 in
theorem indexI (F : Nat) (lb : Array Value) (eg : Enters F) (A : Option Addr) (c : Nat) (xs : List Int) (p : Int → Bool) (w : World) (hr : Kd.C (Kd.int .i64) w A xs.length xs) (hp : PredI F lb w xs p) :
    Calls Try.prog 92 #[.slice A xs.length c, .func (.func F) #[] lb] w (SomeIdx w fun r => decide (0 ≤ r) = xs.any p) := by
  have hm : xs.length ≤ 9223372036854775807 := by
    have := hr.2.1; omega
  have HR := Lib.hid hr
  have HP := Lib.hid hp
  unfold Enters at eg
  clear hr hp
  go_enter Try.func92, Try.ntmps92
  go_wp2
  go_loopw [4, 5, 8] (fun _ _ i W => ∃ k : Nat, k ≤ xs.length ∧ i = .int .i64 k ∧ (xs.take k).any p = false ∧ Below w.heap.size w W) (fun _ _ i _ => xs.length - (intOf i).toNat)
  case atStart => exact ⟨0, Nat.zero_le _, rfl, rfl, Below.refl _ _⟩
  case round =>
    obtain ⟨k, hk, rfl, hno, hb⟩ := hrel
    have HN := Lib.hid hno
    have HB := Lib.hid hb
    clear hno hb
    by_cases hlt : k < xs.length
    · obtain ⟨ad, rfl, hat⟩ := I_cell (Kd.C_below HR.out HB.out) k hlt hlt
      obtain ⟨m, hm⟩ : ∃ m, m = xs[k] := ⟨_, rfl⟩
      rw [← hm] at hat
      have HM := Lib.hid hm
      have c0 := hat
      clear hat hm
      go_wp2_with fail
      refine (HP.out m (by rw [HM.out]; exact List.getElem_mem hlt) wr HB.out).mono ?_
      rintro e w' ⟨rfl, hb⟩
      have HB2 := Lib.hid (bb HB.out hb)
      clear hb c0
      cases hpm : p m
      · have HF := Lib.hid (show p xs[k] = false by rw [← HM.out]; exact hpm)
        clear hpm
        go_wp2_with fail
        go_roundw
        case rel => exact ⟨k + 1, by omega, by go_num, any_take_succ hlt HN.out HF.out, HB2.out⟩
        case measure => simp [intOf]; omega
      · have HF := Lib.hid (show p xs[k] = true by rw [← HM.out]; exact hpm)
        clear hpm
        go_wp2_with fail
        go_ret
        exact ⟨k, rfl, by rw [any_of_at hlt HF.out]; simp, HB2.out⟩
    · go_wp2
      go_ret
      refine ⟨-1, rfl, ?_, HB.out⟩
      have h1 := HN.out
      rw [List.take_of_length_le (by omega)] at h1
      rw [h1]; rfl
theorem containsI (F : Nat) (lb : Array Value) (eg : Enters F) (A : Option Addr) (c : Nat) (xs : List Int) (p : Int → Bool) (w : World) (hr : Kd.C (Kd.int .i64) w A xs.length xs) (hp : PredI F lb w xs p) :
    Calls Try.prog 78 #[.slice A xs.length c, .func (.func F) #[] lb] w fun e w' => e = .returned (.bool (xs.any p)) ∧ Below w.heap.size w w' := by
  have HR := Lib.hid hr
  have HP := Lib.hid hp
  clear hr hp
  go_enter Try.func78, Try.ntmps78
  go_wp2_with fail
  refine (indexI F lb eg A c xs p w HR.out HP.out).mono ?_
  rintro e w' ⟨r, rfl, hQ, hb⟩
  have HQ := Lib.hid hQ
  have HB := Lib.hid hb
  clear hQ hb
  go_wp2_with fail
  go_ret
  exact ⟨by rw [← HQ.out]; rfl, HB.out⟩

/-- What a call with one element answers (bands). -/
def PredB (F : Nat) (lb : Array Value) (w : World) (xs : List S110) (p : S110 → Bool) : Prop :=
  ∀ m, m ∈ xs → ∀ W, Below w.heap.size w W → Calls Try.prog F (#[.agg #[.int .i64 m.f0, .int .i64 m.f1]] ++ lb) W fun e W' => e = .returned (.bool (p m)) ∧ Below W.heap.size W W'

set_option maxHeartbeats 1000000 in
set_option maxRecDepth 100000 in
theorem indexB (F : Nat) (lb : Array Value) (eg : Enters F) (A : Option Addr) (c : Nat) (xs : List S110) (p : S110 → Bool) (w : World) (hr : Kd.C k110 w A xs.length xs) (hp : PredB F lb w xs p) :
    Calls Try.prog 101 #[.slice A xs.length c, .func (.func F) #[] lb] w (SomeIdx w fun r => decide (0 ≤ r) = xs.any p) := by
  have hm : xs.length ≤ 9223372036854775807 := by
    have := hr.2.1; omega
  have HR := Lib.hid hr
  have HP := Lib.hid hp
  unfold Enters at eg
  clear hr hp
  go_enter Try.func101, Try.ntmps101
  go_wp2
  go_loopw [4, 5, 8] (fun _ _ i W => ∃ k : Nat, k ≤ xs.length ∧ i = .int .i64 k ∧ (xs.take k).any p = false ∧ Below w.heap.size w W) (fun _ _ i _ => xs.length - (intOf i).toNat)
  case atStart => exact ⟨0, Nat.zero_le _, rfl, rfl, Below.refl _ _⟩
  case round =>
    obtain ⟨k, hk, rfl, hno, hb⟩ := hrel
    have HN := Lib.hid hno
    have HB := Lib.hid hb
    clear hno hb
    by_cases hlt : k < xs.length
    · obtain ⟨ad, rfl, hat⟩ := B_cell (Kd.C_below HR.out HB.out) k hlt hlt
      obtain ⟨m, hm⟩ : ∃ m, m = xs[k] := ⟨_, rfl⟩
      rw [← hm] at hat
      have HM := Lib.hid hm
      have c0 := hat.c0; have c1 := hat.c1
      clear hat hm
      go_wp2_with fail
      refine (HP.out m (by rw [HM.out]; exact List.getElem_mem hlt) wr HB.out).mono ?_
      rintro e w' ⟨rfl, hb⟩
      have HB2 := Lib.hid (bb HB.out hb)
      clear hb c0 c1
      cases hpm : p m
      · have HF := Lib.hid (show p xs[k] = false by rw [← HM.out]; exact hpm)
        clear hpm
        go_wp2_with fail
        go_roundw
        case rel => exact ⟨k + 1, by omega, by go_num, any_take_succ hlt HN.out HF.out, HB2.out⟩
        case measure => simp [intOf]; omega
      · have HF := Lib.hid (show p xs[k] = true by rw [← HM.out]; exact hpm)
        clear hpm
        go_wp2_with fail
        go_ret
        exact ⟨k, rfl, by rw [any_of_at hlt HF.out]; simp, HB2.out⟩
    · go_wp2
      go_ret
      refine ⟨-1, rfl, ?_, HB.out⟩
      have h1 := HN.out
      rw [List.take_of_length_le (by omega)] at h1
      rw [h1]; rfl
theorem containsB (F : Nat) (lb : Array Value) (eg : Enters F) (A : Option Addr) (c : Nat) (xs : List S110) (p : S110 → Bool) (w : World) (hr : Kd.C k110 w A xs.length xs) (hp : PredB F lb w xs p) :
    Calls Try.prog 97 #[.slice A xs.length c, .func (.func F) #[] lb] w fun e w' => e = .returned (.bool (xs.any p)) ∧ Below w.heap.size w w' := by
  have HR := Lib.hid hr
  have HP := Lib.hid hp
  clear hr hp
  go_enter Try.func97, Try.ntmps97
  go_wp2_with fail
  refine (indexB F lb eg A c xs p w HR.out HP.out).mono ?_
  rintro e w' ⟨r, rfl, hQ, hb⟩
  have HQ := Lib.hid hQ
  have HB := Lib.hid hb
  clear hQ hb
  go_wp2_with fail
  go_ret
  exact ⟨by rw [← HQ.out]; rfl, HB.out⟩

/-- What a call with one element answers (lists of records). -/
def PredL (F : Nat) (lb : Array Value) (w : World) (xs : List (List S39)) (p : (List S39) → Bool) : Prop :=
  ∀ m, m ∈ xs → ∀ W, Below w.heap.size w W → ∀ (A0 : Option Addr) (c0 : Nat), Kd.C k39 W A0 m.length m → m.length ≤ c0 → Calls Try.prog F (#[.slice A0 m.length c0] ++ lb) W fun e W' => e = .returned (.bool (p m)) ∧ Below W.heap.size W W'

set_option maxHeartbeats 1000000 in
set_option maxRecDepth 100000 in
theorem indexL (F : Nat) (lb : Array Value) (eg : Enters F) (A : Option Addr) (c : Nat) (xs : List (List S39)) (p : (List S39) → Bool) (w : World) (hr : Kd.C (Kd.slice 39 k39) w A xs.length xs) (hp : PredL F lb w xs p) :
    Calls Try.prog 91 #[.slice A xs.length c, .func (.func F) #[] lb] w (SomeIdx w fun r => decide (0 ≤ r) = xs.any p) := by
  have hm : xs.length ≤ 9223372036854775807 := by
    have := hr.2.1; omega
  have HR := Lib.hid hr
  have HP := Lib.hid hp
  unfold Enters at eg
  clear hr hp
  go_enter Try.func91, Try.ntmps91
  go_wp2
  go_loopw [4, 5, 8] (fun _ _ i W => ∃ k : Nat, k ≤ xs.length ∧ i = .int .i64 k ∧ (xs.take k).any p = false ∧ Below w.heap.size w W) (fun _ _ i _ => xs.length - (intOf i).toNat)
  case atStart => exact ⟨0, Nat.zero_le _, rfl, rfl, Below.refl _ _⟩
  case round =>
    obtain ⟨k, hk, rfl, hno, hb⟩ := hrel
    have HN := Lib.hid hno
    have HB := Lib.hid hb
    clear hno hb
    by_cases hlt : k < xs.length
    · obtain ⟨ad, A0, k0, rfl, hat⟩ := L_cell (Kd.C_below HR.out HB.out) k hlt hlt
      obtain ⟨m, hm⟩ : ∃ m, m = xs[k] := ⟨_, rfl⟩
      rw [← hm] at hat
      have HM := Lib.hid hm
      have c0 := hat.c0; have HL := Lib.hid hat.le; have HC := Lib.hid hat.cc
      clear hat hm
      go_wp2_with fail
      refine (HP.out m (by rw [HM.out]; exact List.getElem_mem hlt) wr HB.out A0 k0 HC.out HL.out).mono ?_
      rintro e w' ⟨rfl, hb⟩
      have HB2 := Lib.hid (bb HB.out hb)
      clear hb c0
      cases hpm : p m
      · have HF := Lib.hid (show p xs[k] = false by rw [← HM.out]; exact hpm)
        clear hpm
        go_wp2_with fail
        go_roundw
        case rel => exact ⟨k + 1, by omega, by go_num, any_take_succ hlt HN.out HF.out, HB2.out⟩
        case measure => simp [intOf]; omega
      · have HF := Lib.hid (show p xs[k] = true by rw [← HM.out]; exact hpm)
        clear hpm
        go_wp2_with fail
        go_ret
        exact ⟨k, rfl, by rw [any_of_at hlt HF.out]; simp, HB2.out⟩
    · go_wp2
      go_ret
      refine ⟨-1, rfl, ?_, HB.out⟩
      have h1 := HN.out
      rw [List.take_of_length_le (by omega)] at h1
      rw [h1]; rfl
theorem containsL (F : Nat) (lb : Array Value) (eg : Enters F) (A : Option Addr) (c : Nat) (xs : List (List S39)) (p : (List S39) → Bool) (w : World) (hr : Kd.C (Kd.slice 39 k39) w A xs.length xs) (hp : PredL F lb w xs p) :
    Calls Try.prog 75 #[.slice A xs.length c, .func (.func F) #[] lb] w fun e w' => e = .returned (.bool (xs.any p)) ∧ Below w.heap.size w w' := by
  have HR := Lib.hid hr
  have HP := Lib.hid hp
  clear hr hp
  go_enter Try.func75, Try.ntmps75
  go_wp2_with fail
  refine (indexL F lb eg A c xs p w HR.out HP.out).mono ?_
  rintro e w' ⟨r, rfl, hQ, hb⟩
  have HQ := Lib.hid hQ
  have HB := Lib.hid hb
  clear hQ hb
  go_wp2_with fail
  go_ret
  exact ⟨by rw [← HQ.out]; rfl, HB.out⟩

end Go.Proofs.Ytbfhohpbldadbaa.P
