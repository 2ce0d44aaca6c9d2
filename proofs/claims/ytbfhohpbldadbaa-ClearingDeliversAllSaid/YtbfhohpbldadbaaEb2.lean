/- Texts of this claim, merged and cut to what its theorem reaches, by a program of this session: words and contracts that the print (or a changed scratch copy of it) wrote, and own proofs. -/
import Derived.Test.YtbfhohpbldadbaaEbS1
import Derived.Below
import Derived.Deep.Draws
import Derived.Deep.AppendLies
import Derived.Maps.AppendAt
import Derived.OwnWalk
import Derived.Laws.BytesArg
import Derived.Laws.MakeOwn
import Derived.Laws.OwnMore
import Derived.Deep.OwnRows
import Derived.Tactics
import Derived.Lib.ConvBytes
import Derived.Laws.Slices
import Derived.WalkKit
import Derived.KernelRfl
import Derived.RowKit3
import Derived.Deep.LoopGhost
import Derived.Deep.QuietTactic
import Derived.BigQuiet
import Derived.WideLaws
import Derived.Deep.DeepCutAuto
import Derived.Deep.CutBlock
import Derived.Deep.RegionHeld3
import Derived.Laws.Rows
import Derived.Lib.AppendStr
import Derived.ArgAppend
import Derived.Laws.IdiomCopy
import Derived.RowKit
import Derived.Laws.StructEq
import Derived.Test.YtbfhohpbldadbaaProg
import Derived.OrdersHeld
import Derived.Laws.BitsLemmas
import Derived.Lib.Hide
import Derived.WalkSpells
import Derived.Lib.OthersKept
import Derived.Lib.TrimU
import Derived.Laws.RangeAny
import Derived.Maps.Keyed
import Derived.WideKeyRuns
import Derived.Lib.SliceRun
import Derived.Deep.RegionWith
import Derived.Test.YtbfhohpbldadbaaEb1
-- Written by a program of this session out of the translation (a changed scratch copy of the print). Not trusted: Lean checks it.
namespace Go.Proofs.Ytbfhohpbldadbaa.P
open Go.RowKit Go.Proofs.YtbfhohpbldadbaaW.PrintWords Go.Proofs.YtbfhohpbldadbaaW.PrintLast Go.Proofs.YtbfhohpbldadbaaW.PrintMore
attribute [local go_sem] max2_int min2_int max_two min_two max_three min_three max_four min_four   -- for this text's walks alone
set_option linter.unusedVariables false
set_option linter.unusedSimpArgs false



theorem info39 : (Try.prog.info? 39).map (fun i => (i.zero, i.size, i.bytes)) = some (some (.agg #[(.int .i64 0), (.int .i64 0), (.int .i64 0), (.string ⟨#[]⟩), (.int .i64 0), (.int .i64 0), (.int .i64 0), (.int .i64 0)]), 8, 72) := by kernel_rfl
-- the values' own types
/-! #### struct type 110 -/
structure S110 where
  f0 : Int
  f1 : Int
def z110 : S110 := ⟨(0 : Int), (0 : Int)⟩
def rd_T110 (xs : List S110) (i : Int) : S110 := xs.getD i.toNat z110
/-! #### struct type 33 -/
structure S33 where
  f0 : Int
  f1 : Int
  f2 : Int
  f3 : ByteArray
  f4 : Int
def z33 : S33 := ⟨(0 : Int), (0 : Int), (0 : Int), (⟨#[]⟩ : ByteArray), (0 : Int)⟩
def rd_T33 (xs : List S33) (i : Int) : S33 := xs.getD i.toNat z33
/-! #### struct type 39 -/
structure S39 where
  f0 : Int
  f1 : Int
  f2 : Int
  f3 : ByteArray
  f4 : Int
  f5 : Int
  f6 : Int
  f7 : Int
def z39 : S39 := ⟨(0 : Int), (0 : Int), (0 : Int), (⟨#[]⟩ : ByteArray), (0 : Int), (0 : Int), (0 : Int), (0 : Int)⟩
def k39 : Kd S39 := Kd.iso (Kd.pair (Kd.int .i64) (Kd.pair (Kd.int .i64) (Kd.pair (Kd.int .i64) (Kd.pair Kd.string (Kd.pair (Kd.int .i64) (Kd.pair (Kd.int .i64) (Kd.pair (Kd.int .i64) (Kd.int .i64)))))))) (fun x : S39 => (x.f0, x.f1, x.f2, x.f3, x.f4, x.f5, x.f6, x.f7))
theorem k39_open {w : World} {x : S39} {cs : List Value} (h : k39.K w x cs) : cs = [.int .i64 x.f0, .int .i64 x.f1, .int .i64 x.f2, .string x.f3, .int .i64 x.f4, .int .i64 x.f5, .int .i64 x.f6, .int .i64 x.f7] := by
  obtain ⟨_, _, rfl, rfl, ⟨_, _, rfl, rfl, ⟨_, _, rfl, rfl, ⟨_, _, rfl, rfl, ⟨_, _, rfl, rfl, ⟨_, _, rfl, rfl, ⟨_, _, rfl, rfl, rfl⟩⟩⟩⟩⟩⟩⟩ := h
  exact rfl
theorem k39_mk (w : World) (x : S39)  : k39.K w x [.int .i64 x.f0, .int .i64 x.f1, .int .i64 x.f2, .string x.f3, .int .i64 x.f4, .int .i64 x.f5, .int .i64 x.f6, .int .i64 x.f7] := ⟨[.int .i64 x.f0], [.int .i64 x.f1, .int .i64 x.f2, .string x.f3, .int .i64 x.f4, .int .i64 x.f5, .int .i64 x.f6, .int .i64 x.f7], rfl, rfl, ⟨[.int .i64 x.f1], [.int .i64 x.f2, .string x.f3, .int .i64 x.f4, .int .i64 x.f5, .int .i64 x.f6, .int .i64 x.f7], rfl, rfl, ⟨[.int .i64 x.f2], [.string x.f3, .int .i64 x.f4, .int .i64 x.f5, .int .i64 x.f6, .int .i64 x.f7], rfl, rfl, ⟨[.string x.f3], [.int .i64 x.f4, .int .i64 x.f5, .int .i64 x.f6, .int .i64 x.f7], rfl, rfl, ⟨[.int .i64 x.f4], [.int .i64 x.f5, .int .i64 x.f6, .int .i64 x.f7], rfl, rfl, ⟨[.int .i64 x.f5], [.int .i64 x.f6, .int .i64 x.f7], rfl, rfl, ⟨[.int .i64 x.f6], [.int .i64 x.f7], rfl, rfl, rfl⟩⟩⟩⟩⟩⟩⟩
theorem k39_mkM (w : World) (base : Nat) (ok : Nat → Prop) (x : S39)  : k39.M w base ok x [.int .i64 x.f0, .int .i64 x.f1, .int .i64 x.f2, .string x.f3, .int .i64 x.f4, .int .i64 x.f5, .int .i64 x.f6, .int .i64 x.f7] := ⟨[.int .i64 x.f0], [.int .i64 x.f1, .int .i64 x.f2, .string x.f3, .int .i64 x.f4, .int .i64 x.f5, .int .i64 x.f6, .int .i64 x.f7], rfl, rfl, ⟨[.int .i64 x.f1], [.int .i64 x.f2, .string x.f3, .int .i64 x.f4, .int .i64 x.f5, .int .i64 x.f6, .int .i64 x.f7], rfl, rfl, ⟨[.int .i64 x.f2], [.string x.f3, .int .i64 x.f4, .int .i64 x.f5, .int .i64 x.f6, .int .i64 x.f7], rfl, rfl, ⟨[.string x.f3], [.int .i64 x.f4, .int .i64 x.f5, .int .i64 x.f6, .int .i64 x.f7], rfl, rfl, ⟨[.int .i64 x.f4], [.int .i64 x.f5, .int .i64 x.f6, .int .i64 x.f7], rfl, rfl, ⟨[.int .i64 x.f5], [.int .i64 x.f6, .int .i64 x.f7], rfl, rfl, ⟨[.int .i64 x.f6], [.int .i64 x.f7], rfl, rfl, rfl⟩⟩⟩⟩⟩⟩⟩
def rd_T39 (xs : List S39) (i : Int) : S39 := xs.getD i.toNat z39
theorem at_T39 {w : World} {A : Option Addr} {n : Nat} {xs : List S39} (h : Kd.C k39 w A n xs) (i : Int) (h0 : 0 ≤ i) (h1 : i < n) : ∃ ad , A = some ad ∧ w.cell? (ad.add (i.toNat * 8)) = some (.int .i64 (rd_T39 xs i).f0) ∧ w.cell? ⟨(ad.add (i.toNat * 8)).block, (ad.add (i.toNat * 8)).off + 1, none⟩ = some (.int .i64 (rd_T39 xs i).f1) ∧ w.cell? ⟨(ad.add (i.toNat * 8)).block, (ad.add (i.toNat * 8)).off + 2, none⟩ = some (.int .i64 (rd_T39 xs i).f2) ∧ w.cell? ⟨(ad.add (i.toNat * 8)).block, (ad.add (i.toNat * 8)).off + 3, none⟩ = some (.string (rd_T39 xs i).f3) ∧ w.cell? ⟨(ad.add (i.toNat * 8)).block, (ad.add (i.toNat * 8)).off + 4, none⟩ = some (.int .i64 (rd_T39 xs i).f4) ∧ w.cell? ⟨(ad.add (i.toNat * 8)).block, (ad.add (i.toNat * 8)).off + 5, none⟩ = some (.int .i64 (rd_T39 xs i).f5) ∧ w.cell? ⟨(ad.add (i.toNat * 8)).block, (ad.add (i.toNat * 8)).off + 6, none⟩ = some (.int .i64 (rd_T39 xs i).f6) ∧ w.cell? ⟨(ad.add (i.toNat * 8)).block, (ad.add (i.toNat * 8)).off + 7, none⟩ = some (.int .i64 (rd_T39 xs i).f7) := by
  obtain ⟨ad, c, e, _, hK, hc0⟩ := Kd.C_get h z39 i h0 h1
  have hc : ∀ j u, c[j]? = some u → w.cell? (ad.add (i.toNat * 8 + j)) = some u := hc0
  obtain rfl := k39_open hK
  exact ⟨ad, e, hc 0 _ rfl, by rw [← add_field _ _ 1 (by omega)]; exact hc 1 _ rfl, by rw [← add_field _ _ 2 (by omega)]; exact hc 2 _ rfl, by rw [← add_field _ _ 3 (by omega)]; exact hc 3 _ rfl, by rw [← add_field _ _ 4 (by omega)]; exact hc 4 _ rfl, by rw [← add_field _ _ 5 (by omega)]; exact hc 5 _ rfl, by rw [← add_field _ _ 6 (by omega)]; exact hc 6 _ rfl, by rw [← add_field _ _ 7 (by omega)]; exact hc 7 _ rfl⟩

def rd_L7 (xs : List (List S39)) (i : Int) : (List S39) := xs.getD i.toNat ([] : List S39)
theorem at_L7 {w : World} {A : Option Addr} {n : Nat} {xs : List (List S39)} (h : Kd.C (Kd.slice 39 k39) w A n xs) (i : Int) (h0 : 0 ≤ i) (h1 : i < n) : ∃ ad A0 c0, A = some ad ∧ w.cell? (ad.add i.toNat) = some (.slice A0 (rd_L7 xs i).length c0) ∧ (rd_L7 xs i).length ≤ c0 ∧ k39.C w A0 (rd_L7 xs i).length (rd_L7 xs i) := by
  obtain ⟨ad, c, e, _, hK, hc0⟩ := Kd.C_get h ([] : List S39) i h0 h1
  have hc : ∀ j u, c[j]? = some u → w.cell? (ad.add (i.toNat * 1 + j)) = some u := hc0
  obtain ⟨A0, c0, rfl, l0, g0⟩ := hK
  exact ⟨ad, A0, c0, e, by have hq := hc 0 _ rfl; rwa [Nat.mul_one, Nat.add_zero] at hq, l0, g0⟩

/-! #### struct type 61 -/
structure S61 where
  f0 : (List (List S39))
  f1 : Int
  f2 : Int
  f3 : (List S39)
  f4 : Bool
  f5 : Int
def z61 : S61 := ⟨([] : List (List S39)), (0 : Int), (0 : Int), ([] : List S39), false, (0 : Int)⟩
/-! #### struct type 83 -/
structure S83 where
  f0 : Int
  f1 : Bool
  f2 : (List S39)
def z83 : S83 := ⟨(0 : Int), false, ([] : List S39)⟩
def k83 : Kd S83 := Kd.iso (Kd.pair (Kd.int .i64) (Kd.pair Kd.bool (Kd.slice 39 k39))) (fun x : S83 => (x.f0, x.f1, x.f2))
theorem k83_open {w : World} {x : S83} {cs : List Value} (h : k83.K w x cs) : ∃ A2 c2, cs = [.int .i64 x.f0, .bool x.f1, .slice A2 x.f2.length c2] ∧ x.f2.length ≤ c2 ∧ k39.C w A2 x.f2.length x.f2 := by
  obtain ⟨_, _, rfl, rfl, ⟨_, _, rfl, rfl, ⟨A2, c2, rfl, l2, g2⟩⟩⟩ := h
  exact ⟨A2, c2, rfl, l2, g2⟩
theorem k83_mkM (w : World) (base : Nat) (ok : Nat → Prop) (x : S83) {v2 : Value} (g2 : k39.R 39 w base ok v2 x.f2) : k83.M w base ok x [.int .i64 x.f0, .bool x.f1, v2] := ⟨[.int .i64 x.f0], [.bool x.f1, v2], rfl, rfl, ⟨[.bool x.f1], [v2], rfl, rfl, ⟨v2, rfl, g2⟩⟩⟩
def rd_T83 (xs : List S83) (i : Int) : S83 := xs.getD i.toNat z83
theorem at_T83 {w : World} {A : Option Addr} {n : Nat} {xs : List S83} (h : Kd.C k83 w A n xs) (i : Int) (h0 : 0 ≤ i) (h1 : i < n) : ∃ ad A2 c2, A = some ad ∧ w.cell? (ad.add (i.toNat * 3)) = some (.int .i64 (rd_T83 xs i).f0) ∧ w.cell? ⟨(ad.add (i.toNat * 3)).block, (ad.add (i.toNat * 3)).off + 1, none⟩ = some (.bool (rd_T83 xs i).f1) ∧ w.cell? ⟨(ad.add (i.toNat * 3)).block, (ad.add (i.toNat * 3)).off + 2, none⟩ = some (.slice A2 (rd_T83 xs i).f2.length c2) ∧ (rd_T83 xs i).f2.length ≤ c2 ∧ k39.C w A2 (rd_T83 xs i).f2.length (rd_T83 xs i).f2 := by
  obtain ⟨ad, c, e, _, hK, hc0⟩ := Kd.C_get h z83 i h0 h1
  have hc : ∀ j u, c[j]? = some u → w.cell? (ad.add (i.toNat * 3 + j)) = some u := hc0
  obtain ⟨A2, c2, rfl, l2, g2⟩ := k83_open hK
  exact ⟨ad, A2, c2, e, hc 0 _ rfl, by rw [← add_field _ _ 1 (by omega)]; exact hc 1 _ rfl, by rw [← add_field _ _ 2 (by omega)]; exact hc 2 _ rfl, l2, g2⟩

end Go.Proofs.Ytbfhohpbldadbaa.P

namespace Go.Proofs.Ytbfhohpbldadbaa.P
open Go.RowKit Go.Proofs.YtbfhohpbldadbaaW.PrintWords Go.Proofs.YtbfhohpbldadbaaW.PrintLast Go.Proofs.YtbfhohpbldadbaaW.PrintMore
set_option linter.unusedVariables false
set_option linter.unusedSimpArgs false

theorem al {w W : World} (h : Below w.heap.size w W) (o : Obj) : Below w.heap.size w (W.alloc o) := below_alloc h o
theorem bb {w w1 w2 : World} (h : Below w.heap.size w w1) (k : Below w1.heap.size w1 w2) : Below w.heap.size w w2 := below_then h h.size k
theorem below_one (w : World) (o : Obj) : Below w.heap.size w (w.alloc o) := below_alloc (Below.refl _ _) o

theorem any_take_succ {α : Type} {p : α → Bool} {xs : List α} {k : Nat} (hk : k < xs.length) (h : (xs.take k).any p = false) (h2 : p xs[k] = false) : (xs.take (k + 1)).any p = false := by
  rw [List.take_succ_eq_append_getElem hk, List.any_append, h]
  simp [h2]
theorem any_of_at {α : Type} {p : α → Bool} {xs : List α} {k : Nat} (hk : k < xs.length) (h2 : p xs[k] = true) : xs.any p = true := List.any_eq_true.2 ⟨xs[k], List.getElem_mem hk, h2⟩
theorem getD_at {α : Type} {xs : List α} {k : Nat} (hk : k < xs.length) (z : α) : xs.getD k z = xs[k] := by
  rw [List.getD_eq_getElem?_getD, List.getElem?_eq_getElem hk]; rfl

def SomeIdx (w : World) (P : Int → Prop) (e : Ending) (w' : World) : Prop := ∃ r : Int, e = .returned (.int .i64 r) ∧ P r ∧ Below w.heap.size w w'
/-- The value F is entered. -/
def Enters (F : Nat) : Prop := ∀ (args : Array Value) (w : World), (callFunc F args).run Try.prog w = .ok (.enter F args) w

/-- A cell that holds a slice of records. -/
structure AtL (w : World) (a : Addr) (A : Option Addr) (c : Nat) (l : List S39) : Prop where
  c0 : w.cell? a = some (.slice A l.length c)
  le : l.length ≤ c
  cc : Kd.C k39 w A l.length l
theorem L_cell {w : World} {A : Option Addr} {n : Nat} {xs : List (List S39)} (h : Kd.C (Kd.slice 39 k39) w A n xs) (i : Nat) (hi : i < n) (hl : i < xs.length) : ∃ ad A0 c0, A = some ad ∧ AtL w (ad.add i) A0 c0 xs[i] := by
  obtain ⟨ad, A0, c0, hA, h0, h1, h2⟩ := at_L7 h (i : Int) (by omega) (by omega)
  simp only [rd_L7, Int.toNat_natCast, getD_at hl] at h0 h1 h2
  exact ⟨ad, A0, c0, hA, h0, h1, h2⟩

/-- What a call with one element answers (lists of records). -/
def PredL (F : Nat) (lb : Array Value) (w : World) (xs : List (List S39)) (p : (List S39) → Bool) : Prop :=
  ∀ m, m ∈ xs → ∀ W, Below w.heap.size w W → ∀ (A0 : Option Addr) (c0 : Nat), Kd.C k39 W A0 m.length m → m.length ≤ c0 → Calls Try.prog F (#[.slice A0 m.length c0] ++ lb) W fun e W' => e = .returned (.bool (p m)) ∧ Below W.heap.size W W'

set_option maxHeartbeats 1000000 in
set_option maxRecDepth 100000 in
theorem indexL (F : Nat) (lb : Array Value) (eg : Enters F) (A : Option Addr) (c : Nat) (xs : List (List S39)) (p : (List S39) → Bool) (w : World) (hr : Kd.C (Kd.slice 39 k39) w A xs.length xs) (hp : PredL F lb w xs p) :
    Calls Try.prog 91 #[.slice A xs.length c, .func (.func F) #[] lb] w (SomeIdx w fun r => decide (0 ≤ r) = xs.any p) := by
  have hm : xs.length ≤ 9223372036854775807 := by
    have := hr.2.1; omega
  have HR := Lib.hid hr
  have HP := Lib.hid hp
  unfold Enters at eg
  clear hr hp
  go_enter Try.func91, Try.ntmps91
  go_wp2
  go_loopw [4, 5, 8] (fun _ _ i W => ∃ k : Nat, k ≤ xs.length ∧ i = .int .i64 k ∧ (xs.take k).any p = false ∧ Below w.heap.size w W) (fun _ _ i _ => xs.length - (intOf i).toNat)
  case atStart => exact ⟨0, Nat.zero_le _, rfl, rfl, Below.refl _ _⟩
  case round =>
    obtain ⟨k, hk, rfl, hno, hb⟩ := hrel
    have HN := Lib.hid hno
    have HB := Lib.hid hb
    clear hno hb
    by_cases hlt : k < xs.length
    · obtain ⟨ad, A0, k0, rfl, hat⟩ := L_cell (Kd.C_below HR.out HB.out) k hlt hlt
      obtain ⟨m, hm⟩ : ∃ m, m = xs[k] := ⟨_, rfl⟩
      rw [← hm] at hat
      have HM := Lib.hid hm
      have c0 := hat.c0; have HL := Lib.hid hat.le; have HC := Lib.hid hat.cc
      clear hat hm
      go_wp2_with fail
      refine (HP.out m (by rw [HM.out]; exact List.getElem_mem hlt) wr HB.out A0 k0 HC.out HL.out).mono ?_
      rintro e w' ⟨rfl, hb⟩
      have HB2 := Lib.hid (bb HB.out hb)
      clear hb c0
      cases hpm : p m
      · have HF := Lib.hid (show p xs[k] = false by rw [← HM.out]; exact hpm)
        clear hpm
        go_wp2_with fail
        go_roundw
        case rel => exact ⟨k + 1, by omega, by go_num, any_take_succ hlt HN.out HF.out, HB2.out⟩
        case measure => simp [intOf]; omega
      · have HF := Lib.hid (show p xs[k] = true by rw [← HM.out]; exact hpm)
        clear hpm
        go_wp2_with fail
        go_ret
        exact ⟨k, rfl, by rw [any_of_at hlt HF.out]; simp, HB2.out⟩
    · go_wp2
      go_ret
      refine ⟨-1, rfl, ?_, HB.out⟩
      have h1 := HN.out
      rw [List.take_of_length_le (by omega)] at h1
      rw [h1]; rfl
theorem containsL (F : Nat) (lb : Array Value) (eg : Enters F) (A : Option Addr) (c : Nat) (xs : List (List S39)) (p : (List S39) → Bool) (w : World) (hr : Kd.C (Kd.slice 39 k39) w A xs.length xs) (hp : PredL F lb w xs p) :
    Calls Try.prog 75 #[.slice A xs.length c, .func (.func F) #[] lb] w fun e w' => e = .returned (.bool (xs.any p)) ∧ Below w.heap.size w w' := by
  have HR := Lib.hid hr
  have HP := Lib.hid hp
  clear hr hp
  go_enter Try.func75, Try.ntmps75
  go_wp2_with fail
  refine (indexL F lb eg A c xs p w HR.out HP.out).mono ?_
  rintro e w' ⟨r, rfl, hQ, hb⟩
  have HQ := Lib.hid hQ
  have HB := Lib.hid hb
  clear hQ hb
  go_wp2_with fail
  go_ret
  exact ⟨by rw [← HQ.out]; rfl, HB.out⟩

end Go.Proofs.Ytbfhohpbldadbaa.P

namespace Go.Proofs.Ytbfhohpbldadbaa.P
open Go.RowKit Go.Proofs.YtbfhohpbldadbaaW.PrintWords Go.Proofs.YtbfhohpbldadbaaW.PrintLast Go.Proofs.YtbfhohpbldadbaaW.PrintMore
set_option linter.unusedVariables false
set_option linter.unusedSimpArgs false

/-! ### meter.inTime -/
def oddT (n : Int) : Bool := decide (n < 0) || decide (1099511627776 < n)
end Go.Proofs.Ytbfhohpbldadbaa.P

namespace Go.Proofs.Ytbfhohpbldadbaa.P
open Go.RowKit Go.Proofs.YtbfhohpbldadbaaW.PrintWords Go.Proofs.YtbfhohpbldadbaaW.PrintLast Go.Proofs.YtbfhohpbldadbaaW.PrintMore
set_option linter.unusedVariables false
set_option linter.unusedSimpArgs false

/-! ### the map of the meters that were seen -/
def keyV (k : Int × Int) : Value := .agg #[.int .i64 k.1, .int .i64 k.2]
/-- The map of the meters that were seen. -/
def MapOf (W : World) (g : Nat) (ks : List (Int × Int)) : Prop := ∃ (es : Array MapEntry) (clock : Nat), W.heap[g]? = some (.map es clock) ∧ es.toList.map (fun e => (e.key, e.val)) = ks.map (fun k => (keyV k, Value.bool true))
end Go.Proofs.Ytbfhohpbldadbaa.P

namespace Go.Proofs.Ytbfhohpbldadbaa.P
open Go.RowKit Go.Proofs.YtbfhohpbldadbaaW.PrintWords Go.Proofs.YtbfhohpbldadbaaW.PrintLast Go.Proofs.YtbfhohpbldadbaaW.PrintMore
set_option linter.unusedVariables false
set_option linter.unusedSimpArgs false
theorem MapOf.lt {W : World} {g : Nat} {ks : List (Int × Int)} (h : MapOf W g ks) : g < W.heap.size := by
  obtain ⟨es, c, hb, _⟩ := h
  exact (Array.getElem?_eq_some_iff.1 hb).1
theorem MapOf.below {W W' : World} {g : Nat} {ks : List (Int × Int)} (h : MapOf W g ks) (hb : Below W.heap.size W W') : MapOf W' g ks := by
  have hl := h.lt
  obtain ⟨es, c, h1, h2⟩ := h
  exact ⟨es, c, (hb.block g hl).trans h1, h2⟩
def MBlk (w : World) (g : Nat) (m : S33) : Prop := w.heap[g]? = some (.cells #[.int .i64 m.f0, .int .i64 m.f1, .int .i64 m.f2, .string m.f3, .int .i64 m.f4] 33 (0, 0))
def KBlk (w : World) (g : Nat) (a b : Int) : Prop := w.heap[g]? = some (.cells #[.int .i64 a, .int .i64 b] 130 (0, 0))
section
variable {w w' : World} {g : Nat} {m : S33} {a b : Int}
theorem heap_lt {o : Obj} (h : w.heap[g]? = some o) : g < w.heap.size := (Array.getElem?_eq_some_iff.1 h).1
theorem MBlk.c0 (h : MBlk w g m) : w.cell? ⟨g, 0, none⟩ = some (.int .i64 m.f0) := (cell_of_row w g 0 _ 33 (0, 0) h).trans rfl
theorem MBlk.c1 (h : MBlk w g m) : w.cell? ⟨g, 1, none⟩ = some (.int .i64 m.f1) := (cell_of_row w g 1 _ 33 (0, 0) h).trans rfl
theorem MBlk.c2 (h : MBlk w g m) : w.cell? ⟨g, 2, none⟩ = some (.int .i64 m.f2) := (cell_of_row w g 2 _ 33 (0, 0) h).trans rfl
theorem MBlk.c3 (h : MBlk w g m) : w.cell? ⟨g, 3, none⟩ = some (.string m.f3) := (cell_of_row w g 3 _ 33 (0, 0) h).trans rfl
theorem MBlk.c4 (h : MBlk w g m) : w.cell? ⟨g, 4, none⟩ = some (.int .i64 m.f4) := (cell_of_row w g 4 _ 33 (0, 0) h).trans rfl
theorem MBlk.below (h : MBlk w g m) (hb : Below w.heap.size w w') : MBlk w' g m := (hb.block g (heap_lt h)).trans h
theorem MBlk.alloc (h : MBlk w g m) (o : Obj) : MBlk (w.alloc o) g m := h.below (below_one _ _)
theorem KBlk.c0 (h : KBlk w g a b) : w.cell? ⟨g, 0, none⟩ = some (.int .i64 a) := (cell_of_row w g 0 _ 130 (0, 0) h).trans rfl
theorem KBlk.c1 (h : KBlk w g a b) : w.cell? ⟨g, 1, none⟩ = some (.int .i64 b) := (cell_of_row w g 1 _ 130 (0, 0) h).trans rfl
theorem KBlk.below (h : KBlk w g a b) (hb : Below w.heap.size w w') : KBlk w' g a b := (hb.block g (heap_lt h)).trans h
end
end Go.Proofs.Ytbfhohpbldadbaa.P

namespace Go.Proofs.Ytbfhohpbldadbaa.P
open Go.RowKit Go.Proofs.YtbfhohpbldadbaaW.PrintWords Go.Proofs.YtbfhohpbldadbaaW.PrintLast Go.Proofs.YtbfhohpbldadbaaW.PrintMore
set_option linter.unusedVariables false
set_option linter.unusedSimpArgs false
theorem R_empty {α : Type} (d : Kd α) (e : Nat) (w : World) (base : Nat) (hb : base ≤ w.heap.size) : Kd.R d e (w.alloc (.cells #[] e)) base (fun _ => True) (.slice (some ⟨w.heap.size, 0, none⟩) 0 0) [] := by
  refine ⟨fun _ _ => trivial, [], ?_, ?_⟩
  · simpa using World.ownsRow_made (e := e) (size := d.sz) w #[] 0 hb (Nat.zero_le _) (by simp)
  · exact Reps.none _ _
set_option maxHeartbeats 1000000 in
set_option maxRecDepth 100000 in
theorem cloneR (A : Option Addr) (c : Nat) (xs : List S39) (w : World) (hr : Kd.C k39 w A xs.length xs) (hl : xs.length * 72 ≤ 140737488355328) :
    Calls Try.prog 72 #[.slice A xs.length c] w fun e w' => ∃ v', e = .returned v' ∧ Kd.R k39 39 w' w.heap.size (fun _ => True) v' xs ∧ Below w.heap.size w w' := by
  have HR := Lib.hid hr
  clear hr
  have q22 : ∀ (w : World) (a : Option Addr) (n c n' c' : Nat), (binOp .eql 28 (.slice a n c) (.slice none n' c')).run Try.prog w = .ok (.bool a.isNone) w := fun w a n c n' c' => Lib.run_eql_slice_nil w _ _ a n c n' c' Try.underlying28
  cases A with
  | none =>
    have hn : xs = [] := by
      have h := HR.out.2.2
      cases xs with
      | nil => rfl
      | cons x xs => obtain ⟨ad, h, _⟩ := h (by simp); cases h
    subst hn
    clear HR
    go_enter Try.func72, Try.ntmps72
    go_wp2_with fail
    go_ret
    exact ⟨_, rfl, Kd.R_nil _ _ _ _ _, Below.refl _ _⟩
  | some ad =>
    go_enter Try.func72, Try.ntmps72
    go_wp2_with ((with_reducible refine gate_builtin (b := .append) (xs := #[.tmp 5, .tmp 6]) rfl ?_); at_builtin; refine Kd.R_append_rows k39 (w0 := w) w.heap.size rfl (.tmp 5) (.tmp 6) 28 39 (.agg #[(.int .i64 0), (.int .i64 0), (.int .i64 0), (.string ⟨#[]⟩), (.int .i64 0), (.int .i64 0), (.int .i64 0), (.int .i64 0)]) 72 rfl Try.underlying28 info39 rfl (by decide) (by omega) (.slice (some ⟨w.heap.size, 0, none⟩) 0 0) [] xs (some ad) xs.length c (fun _ => True) (fun _ => False) rfl rfl (R_empty k39 39 w w.heap.size (Nat.le_refl _)) (Kd.C_below HR.out (below_one _ _)) (fun _ _ h => h) (fun _ h => h.elim) (fun _ _ => trivial) (below_one _ _) (by simp) (by simpa using hl) ?_; intro v' w1 ho hb hg hat)
    go_ret
    exact ⟨v', rfl, by simpa using ho, hb⟩
end Go.Proofs.Ytbfhohpbldadbaa.P

namespace Go.Proofs.Ytbfhohpbldadbaa.P
open Go.RowKit Go.Proofs.YtbfhohpbldadbaaW.PrintWords Go.Proofs.YtbfhohpbldadbaaW.PrintLast Go.Proofs.YtbfhohpbldadbaaW.PrintMore
set_option linter.unusedVariables false
set_option linter.unusedSimpArgs false
theorem MBlk.cs {w : World} {g : Nat} {m : S33} (h : MBlk w g m) : w.cell? ⟨g, 0, none⟩ = some (.int .i64 m.f0) ∧ w.cell? ⟨g, 1, none⟩ = some (.int .i64 m.f1) ∧ w.cell? ⟨g, 2, none⟩ = some (.int .i64 m.f2) ∧ w.cell? ⟨g, 3, none⟩ = some (.string m.f3) ∧ w.cell? ⟨g, 4, none⟩ = some (.int .i64 m.f4) := ⟨h.c0, h.c1, h.c2, h.c3, h.c4⟩
theorem MBlk.grown {w w1 : World} {g : Nat} {m : S33} {row : Option Nat} (h : MBlk w g m) (hg : w.grownBy w1 row) (hne : some g ≠ row) : MBlk w1 g m := blk_grown h hg hne
end Go.Proofs.Ytbfhohpbldadbaa.P

namespace Go.Proofs.Ytbfhohpbldadbaa.P
open Go.RowKit Go.Proofs.YtbfhohpbldadbaaW.PrintWords Go.Proofs.YtbfhohpbldadbaaW.PrintLast Go.Proofs.YtbfhohpbldadbaaW.PrintMore
set_option linter.unusedVariables false
set_option linter.unusedSimpArgs false

/-! ### tariffs -/
def goodFrom : Int → List S110 → Bool
  | _, [] => true
  | least, b :: l => decide (least ≤ b.f0) && decide (b.f0 ≤ 86399) && decide (0 ≤ b.f1) && decide (b.f1 ≤ 1000000) && goodFrom (b.f0 + 1) l
def bandIdx (l : List S110) (s : Int) : Int := ((l.takeWhile fun b => decide (b.f0 ≤ s)).length : Int) - 1
def tariff_band.f (l0_0 : List (S110)) (a1 : Int) : Option (Int) :=
  if goodFrom 0 l0_0 = true ∧ l0_0.length ≤ 24 ∧ 0 ≤ a1 ∧ a1 < 86400 then some (bandIdx l0_0 a1) else none

/-! ### until -/
/-- The bands from the last on: what the seconds below n cost. -/
def firstR : List S110 → Int → Int → Int
  | [], _, s => s
  | b :: l, n, s => if b.f0 < n then firstR l b.f0 (s + (n - b.f0) * b.f1) else firstR l n s
def firstF (l : List S110) (n : Int) : Int := firstR l.reverse n 0
def tariff_until.f (l0_0 : List (S110)) (a1 : Int) : Option (Int) :=
  if goodFrom 0 l0_0 = true ∧ l0_0.length ≤ 24 ∧ 0 ≤ a1 ∧ a1 ≤ 1099511627776 then some (a1 / 86400 * firstF l0_0 86400 + firstF l0_0 (a1 % 86400)) else none

end Go.Proofs.Ytbfhohpbldadbaa.P

-- Written by a program of this session out of the translation (a changed scratch copy of the print). Not trusted: Lean checks it.
namespace Go.Proofs.Ytbfhohpbldadbaa.P
open Go.RowKit Go.Proofs.YtbfhohpbldadbaaW.PrintWords Go.Proofs.YtbfhohpbldadbaaW.PrintLast Go.Proofs.YtbfhohpbldadbaaW.PrintMore
attribute [local go_sem] max2_int min2_int max_two min_two max_three min_three max_four min_four   -- for this text's walks alone
set_option linter.unusedVariables false
set_option linter.unusedSimpArgs false

-- GIVEN: function 17 (crossbarlaw27_sane): Derived.Test.YtbfhohpbldadbaaExtS

/-! ### crossbarref26_Few: function 48 -/
def crossbarref26_Few.f (l0_0 : List (S110)) : Option (Bool) := some (decide ((l0_0.length : Int) ≤ 100))
/-! ### crossbarref27_Few: function 18 -/
mutual
def crossbarref27_Few.l0 : Nat → List (S33) → Int → List (S110) → Option (Bool)
  | 0, _, _, _ => none
  | k + 1, x0, x5, x103000 => if x5 < (x0.length : Int) then (crossbarref27_Few.j1 k x0 x5 (decide (x5 < 40)) x103000) else (crossbarref27_Few.j1 k x0 x5 false x103000)
def crossbarref27_Few.j1 : Nat → List (S33) → Int → Bool → List (S110) → Option (Bool)
  | 0, _, _, _, _ => none
  | k + 1, x0, x5, x13, x103000 => if x13 = true then (if 0 ≤ x5 then (if x5 < (x0.length : Int) then (if (((rd_T33 x0 x5).f3).size : Int) > 40 then (some false) else (crossbarref27_Few.l0 k x0 (wrap64 (x5 + 1)) x103000)) else (none)) else (none)) else (if (x0.length : Int) ≤ 40 then ((crossbarref26_Few.f x103000).bind fun t104 => (some t104)) else (some false))
end
def crossbarref27_Few.f (k : Nat) (l0 : List (S33)) (l1_0 : List (S110)) : Option (Bool) := crossbarref27_Few.l0 k l0 0 l1_0
theorem crossbarref27_Few.mono_l : ∀ k, (∀ y0 y1 y2, LeO (crossbarref27_Few.l0 k y0 y1 y2) (crossbarref27_Few.l0 (k + 1) y0 y1 y2)) ∧ (∀ y0 y1 y2 y3, LeO (crossbarref27_Few.j1 k y0 y1 y2 y3) (crossbarref27_Few.j1 (k + 1) y0 y1 y2 y3))
  | 0 => ⟨fun _ _ _ r h => by simp [crossbarref27_Few.l0] at h, fun _ _ _ _ r h => by simp [crossbarref27_Few.j1] at h⟩
  | k + 1 => by
    obtain ⟨ih0, ih1⟩ := crossbarref27_Few.mono_l k
    refine ⟨?_, ?_⟩
    · intro y0 y1 y2
      unfold crossbarref27_Few.l0
      repeat' first
      | (with_reducible exact ih0 _ _ _)
      | (with_reducible exact ih1 _ _ _ _)
      | (with_reducible exact LeO.refl _)
      | (with_reducible exact LeO.none _)
      | (with_reducible refine LeO.ite ?_ ?_)
      | (with_reducible refine LeO.bind ?_ (fun _ => ?_))
      | exact ih0 _ _ _
      | exact ih1 _ _ _ _
      | exact LeO.none _
      | refine LeO.ite ?_ ?_
      | refine LeO.bind ?_ (fun _ => ?_)
    · intro y0 y1 y2 y3
      unfold crossbarref27_Few.j1
      repeat' first
      | (with_reducible exact ih0 _ _ _)
      | (with_reducible exact ih1 _ _ _ _)
      | (with_reducible exact LeO.refl _)
      | (with_reducible exact LeO.none _)
      | (with_reducible refine LeO.ite ?_ ?_)
      | (with_reducible refine LeO.bind ?_ (fun _ => ?_))
      | exact ih0 _ _ _
      | exact ih1 _ _ _ _
      | exact LeO.none _
      | refine LeO.ite ?_ ?_
      | refine LeO.bind ?_ (fun _ => ?_)
theorem crossbarref27_Few.mono : ∀ a0 a1 k, LeO (crossbarref27_Few.f k a0 a1) (crossbarref27_Few.f (k + 1) a0 a1) := by
  intro a0 a1 k
  obtain ⟨ih0, ih1⟩ := crossbarref27_Few.mono_l k
  unfold crossbarref27_Few.f
  repeat' first
      | (with_reducible exact ih0 _ _ _)
      | (with_reducible exact ih1 _ _ _ _)
      | (with_reducible exact LeO.refl _)
      | (with_reducible exact LeO.none _)
      | (with_reducible refine LeO.ite ?_ ?_)
      | (with_reducible refine LeO.bind ?_ (fun _ => ?_))
      | exact ih0 _ _ _
      | exact ih1 _ _ _ _
      | exact LeO.none _
      | refine LeO.ite ?_ ?_
      | refine LeO.bind ?_ (fun _ => ?_)
-- GIVEN: function 19 (meter_Stop): Derived.Test.YtbfhohpbldadbaaExt

/-! ### tariff_within: function 67 -/
def tariff_within.f (a0 : Int) (a1 : Int) (a2 : Int) : Option (Bool) := if a1 ≤ a0 then (some (decide (a0 ≤ a2))) else (some false)
/-! ### tariff_Check: function 30 -/
def tariff_Check.l0 : Nat → Int → List (S110) → Int → Int → Option (Int)
  | 0, _, _, _, _ => none
  | k + 1, x3, x12, x13, x14 => if x14 < x13 then (if 0 ≤ x14 then (if x14 < (x12.length : Int) then (if x14 = 0 then (if ((rd_T110 x12 x14).f0) = 0 then ((tariff_within.f ((rd_T110 x12 x14).f0) x3 86399).bind fun t109 => (if t109 = true then ((tariff_within.f ((rd_T110 x12 x14).f1) 0 1000000).bind fun t110 => (if t110 = true then (tariff_Check.l0 k (wrap64 (((rd_T110 x12 x14).f0) + 1)) x12 x13 (wrap64 (x14 + 1))) else (some 260))) else (some 260))) else (some 260)) else ((tariff_within.f ((rd_T110 x12 x14).f0) x3 86399).bind fun t111 => (if t111 = true then ((tariff_within.f ((rd_T110 x12 x14).f1) 0 1000000).bind fun t112 => (if t112 = true then (tariff_Check.l0 k (wrap64 (((rd_T110 x12 x14).f0) + 1)) x12 x13 (wrap64 (x14 + 1))) else (some 260))) else (some 260)))) else (none)) else (none)) else (some 0)
def tariff_Check.f (k : Nat) (l0_0 : List (S110)) : Option (Int) := (tariff_within.f (l0_0.length : Int) 1 24).bind fun t106 => (if t106 = true then (tariff_Check.l0 k 0 l0_0 (l0_0.length : Int) 0) else (some 260))
theorem tariff_Check.mono_l : ∀ k, (∀ y0 y1 y2 y3, LeO (tariff_Check.l0 k y0 y1 y2 y3) (tariff_Check.l0 (k + 1) y0 y1 y2 y3))
  | 0 => fun _ _ _ _ r h => by simp [tariff_Check.l0] at h
  | k + 1 => by
    have ih0 := tariff_Check.mono_l k
    · intro y0 y1 y2 y3
      unfold tariff_Check.l0
      repeat' first
      | (with_reducible exact ih0 _ _ _ _)
      | (with_reducible exact LeO.refl _)
      | (with_reducible exact LeO.none _)
      | (with_reducible refine LeO.ite ?_ ?_)
      | (with_reducible refine LeO.bind ?_ (fun _ => ?_))
      | exact ih0 _ _ _ _
      | exact LeO.none _
      | refine LeO.ite ?_ ?_
      | refine LeO.bind ?_ (fun _ => ?_)
theorem tariff_Check.mono : ∀ a0 k, LeO (tariff_Check.f k a0) (tariff_Check.f (k + 1) a0) := by
  intro a0 k
  have ih0 := tariff_Check.mono_l k
  unfold tariff_Check.f
  repeat' first
      | (with_reducible exact ih0 _ _ _ _)
      | (with_reducible exact LeO.refl _)
      | (with_reducible exact LeO.none _)
      | (with_reducible refine LeO.ite ?_ ?_)
      | (with_reducible refine LeO.bind ?_ (fun _ => ?_))
      | exact ih0 _ _ _ _
      | exact LeO.none _
      | refine LeO.ite ?_ ?_
      | refine LeO.bind ?_ (fun _ => ?_)
-- GIVEN: function 56 (tariff_until): Derived.Test.YtbfhohpbldadbaaExt

/-! ### tariff_Price: function 20 -/
def tariff_Price.j0 : Nat → Int → Int → Bool → List (S110) → Option (Int × Int)
  | 0, _, _, _, _ => none
  | k + 1, x1, x2, x24, x114000 => if x24 = true then (some (0, 1)) else ((tariff_until.f x114000 x2).bind fun t115 => ((tariff_until.f x114000 x1).bind fun t116 => (some (wrap64 (t115 - t116), 0))))
def tariff_Price.f (k : Nat) (l0_0 : List (S110)) (a1 : Int) (a2 : Int) : Option (Int × Int) := (tariff_Check.f k l0_0).bind fun t114 => (if t114 = 0 then (if a1 < 0 then (tariff_Price.j0 k a1 a2 true l0_0) else (if a2 < a1 then (tariff_Price.j0 k a1 a2 true l0_0) else (tariff_Price.j0 k a1 a2 (decide (a2 > 1099511627776)) l0_0))) else (some (0, t114)))
theorem tariff_Price.mono_l : ∀ k, (∀ y0 y1 y2 y3, LeO (tariff_Price.j0 k y0 y1 y2 y3) (tariff_Price.j0 (k + 1) y0 y1 y2 y3))
  | 0 => fun _ _ _ _ r h => by simp [tariff_Price.j0] at h
  | k + 1 => by
    have ih0 := tariff_Price.mono_l k
    · intro y0 y1 y2 y3
      unfold tariff_Price.j0
      repeat' first
      | (with_reducible exact ih0 _ _ _ _)
      | (with_reducible exact tariff_Check.mono _ _)
      | (with_reducible exact LeO.refl _)
      | (with_reducible exact LeO.none _)
      | (with_reducible refine LeO.ite ?_ ?_)
      | (with_reducible refine LeO.bind ?_ (fun _ => ?_))
      | exact ih0 _ _ _ _
      | exact tariff_Check.mono _ _
      | exact LeO.none _
      | refine LeO.ite ?_ ?_
      | refine LeO.bind ?_ (fun _ => ?_)
theorem tariff_Price.mono : ∀ a0 a1 a2 k, LeO (tariff_Price.f k a0 a1 a2) (tariff_Price.f (k + 1) a0 a1 a2) := by
  intro a0 a1 a2 k
  have ih0 := tariff_Price.mono_l k
  unfold tariff_Price.f
  repeat' first
      | (with_reducible exact ih0 _ _ _ _)
      | (with_reducible exact tariff_Check.mono _ _)
      | (with_reducible exact LeO.refl _)
      | (with_reducible exact LeO.none _)
      | (with_reducible refine LeO.ite ?_ ?_)
      | (with_reducible refine LeO.bind ?_ (fun _ => ?_))
      | exact ih0 _ _ _ _
      | exact tariff_Check.mono _ _
      | exact LeO.none _
      | refine LeO.ite ?_ ?_
      | refine LeO.bind ?_ (fun _ => ?_)
def tariff_Price.B6 : List Nat := [0, 0, 3, 0, 0, 31, 63, 127, 255]
end Go.Proofs.Ytbfhohpbldadbaa.P

-- Written by a program of this session out of the translation (a changed scratch copy of the print). Not trusted: Lean checks it.
namespace Go.Proofs.Ytbfhohpbldadbaa.P
open Go.RowKit Go.Proofs.YtbfhohpbldadbaaW.PrintWords Go.Proofs.YtbfhohpbldadbaaW.PrintLast Go.Proofs.YtbfhohpbldadbaaW.PrintMore
attribute [local go_sem] max2_int min2_int max_two min_two max_three min_three max_four min_four   -- for this text's walks alone
set_option linter.unusedVariables false
set_option linter.unusedSimpArgs false

/-! ### tariff_Rate: function 31 -/
def tariff_Rate.f (k : Nat) (l0_0 : List (S110)) (a1 : Int) : Option (Int × Int) := (tariff_Check.f k l0_0).bind fun t447 => (if t447 = 0 then ((tariff_within.f a1 0 1099511627776).bind fun t448 => (if t448 = true then ((tariff_band.f l0_0 (Int.tmod a1 86400)).bind fun t449 => (if 0 ≤ t449 then (if t449 < (l0_0.length : Int) then (some ((rd_T110 l0_0 t449).f1, 0)) else (none)) else (none))) else (some (0, 1)))) else (some (0, t447)))
theorem tariff_Rate.mono : ∀ a0 a1 k, LeO (tariff_Rate.f k a0 a1) (tariff_Rate.f (k + 1) a0 a1) := by
  intro a0 a1 k
  unfold tariff_Rate.f
  repeat' first
      | (with_reducible exact tariff_Check.mono _ _)
      | (with_reducible exact LeO.refl _)
      | (with_reducible exact LeO.none _)
      | (with_reducible refine LeO.ite ?_ ?_)
      | (with_reducible refine LeO.bind ?_ (fun _ => ?_))
      | exact tariff_Check.mono _ _
      | exact LeO.none _
      | refine LeO.ite ?_ ?_
      | refine LeO.bind ?_ (fun _ => ?_)
def tariff_Rate.B6 : List Nat := [0, 1, 0, 0, 8, 28, 63, 127, 255, 511, 1023]
-- NOT PRINTED: function 9 (crossbarlaw27_MeterChargesEverySecondOnce)

/-! ### tariff_Change: function 32 -/
def tariff_Change.l0 : Nat → Int → Int → Int → Int → Int → Int → Int → List (S110) → Option (Int × Bool × Int)
  | 0, _, _, _, _, _, _, _, _ => none
  | k + 1, x6, x7, x8, x9, x10, x31, x32, x495000 => if x32 < x31 then (if (wrap64 (x9 + 1)) = x8 then (if 0 < (x495000.length : Int) then (if ((rd_T110 x495000 0).f1) = x7 then (tariff_Change.l0 k x6 x7 x8 0 (wrap64 (x10 + 86400)) x31 (wrap64 (x32 + 1)) x495000) else (some (wrap64 ((wrap64 (x10 + 86400)) + ((rd_T110 x495000 0).f0)), true, x6))) else (none)) else (if 0 ≤ (wrap64 (x9 + 1)) then (if (wrap64 (x9 + 1)) < (x495000.length : Int) then (if ((rd_T110 x495000 (wrap64 (x9 + 1))).f1) = x7 then (tariff_Change.l0 k x6 x7 x8 (wrap64 (x9 + 1)) x10 x31 (wrap64 (x32 + 1)) x495000) else (some (wrap64 (x10 + ((rd_T110 x495000 (wrap64 (x9 + 1))).f0)), true, x6))) else (none)) else (none))) else (some (0, false, x6))
def tariff_Change.f (k : Nat) (l0_0 : List (S110)) (a1 : Int) : Option (Int × Bool × Int) := (tariff_Rate.f k l0_0 a1).bind fun bt495 => (if bt495.2 = 0 then ((tariff_band.f l0_0 (Int.tmod a1 86400)).bind fun t497 => (tariff_Change.l0 k bt495.2 bt495.1 (l0_0.length : Int) t497 (wrap64 (a1 - (Int.tmod a1 86400))) (l0_0.length : Int) 0 l0_0)) else (some (0, false, bt495.2)))
theorem tariff_Change.mono_l : ∀ k, (∀ y0 y1 y2 y3 y4 y5 y6 y7, LeO (tariff_Change.l0 k y0 y1 y2 y3 y4 y5 y6 y7) (tariff_Change.l0 (k + 1) y0 y1 y2 y3 y4 y5 y6 y7))
  | 0 => fun _ _ _ _ _ _ _ _ r h => by simp [tariff_Change.l0] at h
  | k + 1 => by
    have ih0 := tariff_Change.mono_l k
    · intro y0 y1 y2 y3 y4 y5 y6 y7
      unfold tariff_Change.l0
      repeat' first
      | (with_reducible exact ih0 _ _ _ _ _ _ _ _)
      | (with_reducible exact tariff_Rate.mono _ _ _)
      | (with_reducible exact LeO.refl _)
      | (with_reducible exact LeO.none _)
      | (with_reducible refine LeO.ite ?_ ?_)
      | (with_reducible refine LeO.bind ?_ (fun _ => ?_))
      | exact ih0 _ _ _ _ _ _ _ _
      | exact tariff_Rate.mono _ _ _
      | exact LeO.none _
      | refine LeO.ite ?_ ?_
      | refine LeO.bind ?_ (fun _ => ?_)
theorem tariff_Change.mono : ∀ a0 a1 k, LeO (tariff_Change.f k a0 a1) (tariff_Change.f (k + 1) a0 a1) := by
  intro a0 a1 k
  have ih0 := tariff_Change.mono_l k
  unfold tariff_Change.f
  repeat' first
      | (with_reducible exact ih0 _ _ _ _ _ _ _ _)
      | (with_reducible exact tariff_Rate.mono _ _ _)
      | (with_reducible exact LeO.refl _)
      | (with_reducible exact LeO.none _)
      | (with_reducible refine LeO.ite ?_ ?_)
      | (with_reducible refine LeO.bind ?_ (fun _ => ?_))
      | exact ih0 _ _ _ _ _ _ _ _
      | exact tariff_Rate.mono _ _ _
      | exact LeO.none _
      | refine LeO.ite ?_ ?_
      | refine LeO.bind ?_ (fun _ => ?_)
end Go.Proofs.Ytbfhohpbldadbaa.P

namespace Go.Proofs.Ytbfhohpbldadbaa.P
open Go.RowKit Go.Proofs.YtbfhohpbldadbaaW.PrintWords Go.Proofs.YtbfhohpbldadbaaW.PrintLast Go.Proofs.YtbfhohpbldadbaaW.PrintMore
set_option linter.unusedVariables false
set_option linter.unusedSimpArgs false
/-- The block of a cutter: its tariff's bands, its records. -/
def CBlk (w : World) (g : Nat) (v r : Value) : Prop := w.heap[g]? = some (.cells #[v, r] 100 (0, 0))
section
variable {w w' : World} {g : Nat} {v r : Value}
theorem CBlk.c0 (h : CBlk w g v r) : w.cell? ⟨g, 0, none⟩ = some v := (cell_of_row w g 0 _ 100 (0, 0) h).trans rfl
theorem CBlk.c1 (h : CBlk w g v r) : w.cell? ⟨g, 1, none⟩ = some r := (cell_of_row w g 1 _ 100 (0, 0) h).trans rfl
theorem CBlk.below (h : CBlk w g v r) (hb : Below w.heap.size w w') : CBlk w' g v r := (hb.block g (heap_lt h)).trans h
end
end Go.Proofs.Ytbfhohpbldadbaa.P

namespace Go.Proofs.Ytbfhohpbldadbaa.P
open Go.RowKit Go.Proofs.YtbfhohpbldadbaaW.PrintWords Go.Proofs.YtbfhohpbldadbaaW.PrintLast Go.Proofs.YtbfhohpbldadbaaW.PrintMore
set_option linter.unusedVariables false
set_option linter.unusedSimpArgs false
/-- A box of one cell. -/
def Bx (w : World) (g t : Nat) (v : Value) : Prop := w.heap[g]? = some (.cells #[v] t (0, 0))
section
variable {w w' : World} {g t : Nat} {v : Value}
theorem Bx.c0 (h : Bx w g t v) : w.cell? ⟨g, 0, none⟩ = some v := (cell_of_row w g 0 _ t (0, 0) h).trans rfl
theorem Bx.below (h : Bx w g t v) (hb : Below w.heap.size w w') : Bx w' g t v := (hb.block g (heap_lt h)).trans h
end
/-- What a call of a predicate over meters answers, in every world behind w. -/
def PredAll (F : Nat) (lb : Array Value) (w : World) (p : S33 → Bool) : Prop :=
  ∀ m W, Below w.heap.size w W → Calls Try.prog F (#[.agg #[.int .i64 m.f0, .int .i64 m.f1, .int .i64 m.f2, .string m.f3, .int .i64 m.f4]] ++ lb) W fun e W' => e = .returned (.bool (p m)) ∧ Below W.heap.size W W'
theorem PredAll.below {F : Nat} {lb : Array Value} {w w' : World} {p : S33 → Bool} (h : PredAll F lb w p) (hb : Below w.heap.size w w') : PredAll F lb w' p := fun m W hW => h m W (bb hb hW)

end Go.Proofs.Ytbfhohpbldadbaa.P

namespace Go.Proofs.Ytbfhohpbldadbaa.P
open Go.RowKit Go.Proofs.YtbfhohpbldadbaaW.PrintWords Go.Proofs.YtbfhohpbldadbaaW.PrintLast Go.Proofs.YtbfhohpbldadbaaW.PrintMore
attribute [local go_sem] max2_int min2_int max_two min_two max_three min_three max_four min_four
set_option linter.unusedVariables false
set_option linter.unusedSimpArgs false
/-- W' is W but for the blocks of 'bad' and what is new. -/
structure Fr (bad : Nat → Prop) (W W' : World) : Prop where
  low : Below 0 W W'
  same : ∀ k, k < W.heap.size → ¬ bad k → W'.heap[k]? = W.heap[k]?
theorem Fr.refl (bad : Nat → Prop) (W : World) : Fr bad W W := ⟨Below.refl _ _, fun _ _ _ => rfl⟩
theorem Fr.size {bad : Nat → Prop} {W W' : World} (h : Fr bad W W') : W.heap.size ≤ W'.heap.size := h.low.size
theorem below0_trans {A B C : World} (h : Below 0 A B) (k : Below 0 B C) : Below 0 A C :=
  ⟨k.os.trans h.os, k.tape.trans h.tape, k.output.trans h.output, Nat.le_trans h.size k.size, fun i hi => absurd hi (Nat.not_lt_zero i)⟩
theorem below_zero {B : Nat} {W W' : World} (h : Below B W W') : Below 0 W W' := ⟨h.os, h.tape, h.output, h.size, fun i hi => absurd hi (Nat.not_lt_zero i)⟩
theorem Fr.trans {bad bad' : Nat → Prop} {A B C : World} (h : Fr bad A B) (k : Fr bad' B C) (hb : ∀ i, i < A.heap.size → bad' i → bad i) : Fr bad A C :=
  ⟨below0_trans h.low k.low, fun i hi hn => (k.same i (Nat.lt_of_lt_of_le hi h.low.size) (fun hx => hn (hb i hi hx))).trans (h.same i hi hn)⟩
theorem Fr.mono {bad bad' : Nat → Prop} {A B : World} (h : Fr bad A B) (hb : ∀ i, i < A.heap.size → bad i → bad' i) : Fr bad' A B := ⟨h.low, fun i hi hn => h.same i hi (fun hx => hn (hb i hi hx))⟩
theorem Fr.of_below {W W' : World} (h : Below W.heap.size W W') (bad : Nat → Prop) : Fr bad W W' := ⟨below_zero h, fun k hk _ => h.block k hk⟩
theorem Fr.set (W : World) (g j : Nat) (u : Value) : Fr (fun k => k = g) W (W.setCell ⟨g, j, none⟩ u) :=
  ⟨below_zero (Below.setCell (Below.refl 0 W) (Nat.zero_le _) u), fun k _ hn => Below.heap_setCell _ _ _ k hn⟩
theorem Fr.of_grown {W W' : World} {row : Option Nat} (h : W.grownBy W' row) : Fr (fun k => some k = row) W W' :=
  ⟨⟨h.os, h.tape, h.output, h.size, fun i hi => absurd hi (Nat.not_lt_zero i)⟩, fun k hk hn => h.block k hk hn⟩
theorem Fr.below {bad : Nat → Prop} {w0 W W' : World} {B : Nat} (h : Fr bad W W') (hb : Below B w0 W) (hB : B ≤ w0.heap.size) (hk : ∀ k, bad k → B ≤ k) : Below B w0 W' :=
  ⟨h.low.os.trans hb.os, h.low.tape.trans hb.tape, h.low.output.trans hb.output, Nat.le_trans hb.size h.low.size, fun k hlt =>
    (h.same k (Nat.lt_of_lt_of_le (Nat.lt_of_lt_of_le hlt hB) hb.size) (fun hx => Nat.not_le_of_lt hlt (hk k hx))).trans (hb.block k hlt)⟩
theorem Fr.blk {bad : Nat → Prop} {W W' : World} {g : Nat} {o : Obj} (h : Fr bad W W') (hg : W.heap[g]? = some o) (hn : ¬ bad g) : W'.heap[g]? = some o := (h.same g (heap_lt hg) hn).trans hg
/-- The cells of a meter in the midst of a block. -/
structure MRow (W : World) (g : Nat) (cs : Array Value) (o : Nat) (m : S33) : Prop where
  blk : W.heap[g]? = some (.cells cs 33 (0, 0))
  e0 : cs[o]? = some (.int .i64 m.f0)
  e1 : cs[o + 1]? = some (.int .i64 m.f1)
  e2 : cs[o + 2]? = some (.int .i64 m.f2)
  e3 : cs[o + 3]? = some (.string m.f3)
  e4 : cs[o + 4]? = some (.int .i64 m.f4)
section
variable {W W' : World} {g o : Nat} {cs : Array Value} {m : S33}
theorem MRow.c0 (h : MRow W g cs o m) : W.cell? ⟨g, o, none⟩ = some (.int .i64 m.f0) := (blk_cell h.blk o).trans h.e0
theorem MRow.c1 (h : MRow W g cs o m) : W.cell? ⟨g, o + 1, none⟩ = some (.int .i64 m.f1) := (blk_cell h.blk (o + 1)).trans h.e1
theorem MRow.c2 (h : MRow W g cs o m) : W.cell? ⟨g, o + 2, none⟩ = some (.int .i64 m.f2) := (blk_cell h.blk (o + 2)).trans h.e2
theorem MRow.c3 (h : MRow W g cs o m) : W.cell? ⟨g, o + 3, none⟩ = some (.string m.f3) := (blk_cell h.blk (o + 3)).trans h.e3
theorem MRow.c4 (h : MRow W g cs o m) : W.cell? ⟨g, o + 4, none⟩ = some (.int .i64 m.f4) := (blk_cell h.blk (o + 4)).trans h.e4
theorem MRow.move (h : MRow W g cs o m) (hb : W'.heap[g]? = some (.cells cs 33 (0, 0))) : MRow W' g cs o m := ⟨hb, h.e0, h.e1, h.e2, h.e3, h.e4⟩
theorem MRow.below (h : MRow W g cs o m) (hb : Below W.heap.size W W') : MRow W' g cs o m := h.move ((hb.block g (heap_lt h.blk)).trans h.blk)
theorem MRow.grown {row : Option Nat} (h : MRow W g cs o m) (hg : W.grownBy W' row) (hne : some g ≠ row) : MRow W' g cs o m := h.move (blk_grown h.blk hg hne)
end
theorem CBlk.grown {W W' : World} {g : Nat} {v r : Value} {row : Option Nat} (h : CBlk W g v r) (hg : W.grownBy W' row) (hne : some g ≠ row) : CBlk W' g v r := blk_grown h hg hne
theorem C1R (W : World) (x : S39) : Kd.C k39 (W.alloc (.cells #[.int .i64 x.f0, .int .i64 x.f1, .int .i64 x.f2, .string x.f3, .int .i64 x.f4, .int .i64 x.f5, .int .i64 x.f6, .int .i64 x.f7] 39)) (some ⟨W.heap.size, 0, none⟩) 1 [x] := by
  have h := heap_alloc_new W (.cells #[.int .i64 x.f0, .int .i64 x.f1, .int .i64 x.f2, .string x.f3, .int .i64 x.f4, .int .i64 x.f5, .int .i64 x.f6, .int .i64 x.f7] 39)
  refine ⟨rfl, by simp, fun _ => ⟨_, rfl, fun j p hj => ?_⟩⟩
  match j, hj with
  | 0, hj =>
    obtain rfl : x = p := by simpa using hj
    refine ⟨[.int .i64 x.f0, .int .i64 x.f1, .int .i64 x.f2, .string x.f3, .int .i64 x.f4, .int .i64 x.f5, .int .i64 x.f6, .int .i64 x.f7], rfl, k39_mk _ x, fun i u hi => ?_⟩
    match i, hi with
    | 0, hi =>
      obtain rfl := (by simpa using hi)
      exact (blk_cell h 0).trans rfl
    | 1, hi =>
      obtain rfl := (by simpa using hi)
      exact (blk_cell h 1).trans rfl
    | 2, hi =>
      obtain rfl := (by simpa using hi)
      exact (blk_cell h 2).trans rfl
    | 3, hi =>
      obtain rfl := (by simpa using hi)
      exact (blk_cell h 3).trans rfl
    | 4, hi =>
      obtain rfl := (by simpa using hi)
      exact (blk_cell h 4).trans rfl
    | 5, hi =>
      obtain rfl := (by simpa using hi)
      exact (blk_cell h 5).trans rfl
    | 6, hi =>
      obtain rfl := (by simpa using hi)
      exact (blk_cell h 6).trans rfl
    | 7, hi =>
      obtain rfl := (by simpa using hi)
      exact (blk_cell h 7).trans rfl
    | (n + 8), hi => simp at hi
  | (n + 1), hj => simp at hj
/-- append(s, x...) of records, in a region that draws. -/
theorem app39 {ops : Array Oper} {o : Oper} {a : Act} {Q : Exit → Act → World → Prop} {Kc : Act → World → Prop} {W : World} (B : Nat) (hw : Region.wanted o (yielded ops a.tmps) = true) (s x : Operand)
    (ho : o.op = .call { callee := .builtin .append, args := #[s, x], argTypes := #[28, 28] })
    (v : Value) (xs ys : List S39) (A : Option Addr) (m c : Nat) (hs : a.eval s = v) (hx : a.eval x = .slice A m c)
    (HO : k39.R 39 W B (fun _ => True) v xs) (HR : Kd.C k39 W A m ys) (HB : B ≤ W.heap.size) (hl : (xs.length + m) * 72 ≤ 140737488355328)
    (h : ∀ v1 w1, k39.R 39 w1 B (fun _ => True) v1 (xs ++ ys) → W.grownBy w1 v.ownBlock → (v1.ownBlock = v.ownBlock ∨ ∃ b, v1.ownBlock = some b ∧ W.heap.size ≤ b) → Kc (a.put o.dst v1) w1) :
    if Region.wanted o (yielded ops a.tmps) = true then Oper.wp Try.prog o a W Kc Q else Kc (a.put o.dst undef) W :=
  Kd.R_append_rows_step (Rr := k39.K W) k39 (w0 := W) B hw s x 28 39 (.agg #[(.int .i64 0), (.int .i64 0), (.int .i64 0), (.string ⟨#[]⟩), (.int .i64 0), (.int .i64 0), (.int .i64 0), (.int .i64 0)]) 72 ho Try.underlying28 info39 rfl (by decide) (by decide) v xs ys A m c (fun _ => True) (fun _ => False) hs hx HO HR (fun y cs h => k39_open h ▸ k39_mkM _ _ _ y) (fun _ h => h.elim) (fun _ _ => trivial) (Below.refl _ _) HB hl (fun v1 w1 h1 _ h3 h4 => h v1 w1 h1 h3 h4)
end Go.Proofs.Ytbfhohpbldadbaa.P

namespace Go.Proofs.Ytbfhohpbldadbaa.P
open Go Go.RowKit Go.Proofs.YtbfhohpbldadbaaW.PrintWords Go.Proofs.YtbfhohpbldadbaaW.PrintLast Go.Proofs.YtbfhohpbldadbaaW.PrintMore
set_option linter.unusedVariables false
set_option linter.unusedSimpArgs false
/-- clearing.sized. -/
def sizedB (n : Nat) : Bool := decide ((1 : Int) ≤ n) && decide ((n : Int) ≤ 1024)
theorem sized_calls (A : Option Addr) (n c : Nat) (w : World) : Calls Try.prog 71 #[.slice A n c] w fun e w' => e = .returned (.bool (sizedB n)) ∧ Below w.heap.size w w' := by
  go_enter Try.func71, Try.ntmps71
  cases h : decide ((1 : Int) ≤ n)
  · go_wp2_with fail
    go_ret
    exact ⟨by simp [sizedB, h], Below.refl _ _⟩
  · go_wp2_with fail
    go_ret
    exact ⟨by simp [sizedB, h], Below.refl _ _⟩
theorem enters73 : Enters 73 := fun _ _ => by kernel_rfl
theorem odd_calls (A : Option Addr) (n c : Nat) (w : World) : Calls Try.prog 73 (#[.slice A n c] ++ #[]) w fun e w' => e = .returned (.bool (!sizedB n)) ∧ Below w.heap.size w w' := by
  go_enter Try.func73, Try.ntmps73
  go_wp2_with (go_at_call 71; refine (sized_calls A n c w).mono ?_; rintro e w' ⟨rfl, hb⟩; have HB := Lib.hid hb; clear hb)
  go_ret
  exact ⟨rfl, HB.out⟩
theorem in74_calls (n : Int) (w : World) : Calls Try.prog 74 #[.int .i64 n] w fun e w' => e = .returned (.bool (!oddT n)) ∧ Below w.heap.size w w' := by
  by_cases h : 0 ≤ n
  · by_cases h2 : n ≤ 1099511627776
    · have hh : oddT n = false := by simp [oddT]; omega
      rw [hh]
      go_enter Try.func74, Try.ntmps74
      go_wp2
      go_ret
      exact ⟨rfl, Below.refl _ _⟩
    · have hh : oddT n = true := by simp [oddT]; omega
      rw [hh]
      go_enter Try.func74, Try.ntmps74
      go_wp2
      go_ret
      exact ⟨rfl, Below.refl _ _⟩
  · have hh : oddT n = true := by simp [oddT]; omega
    rw [hh]
    go_enter Try.func74, Try.ntmps74
    go_wp2
    go_ret
    exact ⟨rfl, Below.refl _ _⟩
/-- The cells of an end (of type t: 61, or 117 for the editor). -/
def EBlk (w : World) (g t : Nat) (v0 : Value) (f1 f2 : Int) (v3 : Value) (f4 : Bool) (f5 : Int) : Prop := w.heap[g]? = some (.cells #[v0, .int .i64 f1, .int .i64 f2, v3, .bool f4, .int .i64 f5] t (0, 0))
section
variable {w w' : World} {g t : Nat} {v0 v3 : Value} {f1 f2 f5 : Int} {f4 : Bool}
theorem EBlk.c0 (h : EBlk w g t v0 f1 f2 v3 f4 f5) : w.cell? ⟨g, 0, none⟩ = some v0 := (cell_of_row w g 0 _ t (0, 0) h).trans rfl
theorem EBlk.c1 (h : EBlk w g t v0 f1 f2 v3 f4 f5) : w.cell? ⟨g, 1, none⟩ = some (.int .i64 f1) := (cell_of_row w g 1 _ t (0, 0) h).trans rfl
theorem EBlk.c2 (h : EBlk w g t v0 f1 f2 v3 f4 f5) : w.cell? ⟨g, 2, none⟩ = some (.int .i64 f2) := (cell_of_row w g 2 _ t (0, 0) h).trans rfl
theorem EBlk.c3 (h : EBlk w g t v0 f1 f2 v3 f4 f5) : w.cell? ⟨g, 3, none⟩ = some v3 := (cell_of_row w g 3 _ t (0, 0) h).trans rfl
theorem EBlk.c4 (h : EBlk w g t v0 f1 f2 v3 f4 f5) : w.cell? ⟨g, 4, none⟩ = some (.bool f4) := (cell_of_row w g 4 _ t (0, 0) h).trans rfl
theorem EBlk.c5 (h : EBlk w g t v0 f1 f2 v3 f4 f5) : w.cell? ⟨g, 5, none⟩ = some (.int .i64 f5) := (cell_of_row w g 5 _ t (0, 0) h).trans rfl
theorem EBlk.below (h : EBlk w g t v0 f1 f2 v3 f4 f5) (hb : Below w.heap.size w w') : EBlk w' g t v0 f1 f2 v3 f4 f5 := (hb.block g (heap_lt h)).trans h
theorem EBlk.new (w : World) (t : Nat) (v0 v3 : Value) (f1 f2 f5 : Int) (f4 : Bool) : EBlk (w.alloc (.cells #[v0, .int .i64 f1, .int .i64 f2, v3, .bool f4, .int .i64 f5] t)) w.heap.size t v0 f1 f2 v3 f4 f5 := heap_alloc_new w _
end
def runB (n : Nat) (d : Int) : Bool := decide ((0 : Int) < n) && (decide (0 ≤ d) && decide (d ≤ 1099511627779))
/-- clearing.Check. -/
def clCheck (o : List (List S39)) (f1 f2 f5 : Int) : Int :=
  if oddT f1 || oddT f2 || o.any (fun l => !sizedB l.length) then 1 else if (f5 != -1) && !runB o.length f5 then 1 else if decide ((64 : Int) < o.length) then 2 else 0
set_option maxHeartbeats 4000000 in
set_option maxRecDepth 100000 in
theorem clCheck_calls (A0 : Option Addr) (c0 : Nat) (o : List (List S39)) (f1 f2 : Int) (v3 : Value) (f4 : Bool) (f5 : Int) (w : World) (hr : Kd.C (Kd.slice 39 k39) w A0 o.length o) :
    Calls Try.prog 39 #[.agg #[.slice A0 o.length c0, .int .i64 f1, .int .i64 f2, v3, .bool f4, .int .i64 f5]] w fun e w' => e = .returned (.int .i64 (clCheck o f1 f2 f5)) ∧ Below w.heap.size w w' := by
  have HR := Lib.hid hr
  obtain ⟨r, hr'⟩ : ∃ r, r = clCheck o f1 f2 f5 := ⟨_, rfl⟩
  rw [← hr']
  have R := Lib.hid hr'
  clear hr hr'
  go_enter Try.func39, Try.ntmps39
  by_cases hd0 : 0 < o.length
  · by_cases hd1 : 0 ≤ f5
    · by_cases hd2 : f5 ≤ 1099511627779
      · have hrun : runB o.length f5 = true := by unfold runB; rw [decide_eq_true (show (0 : Int) < o.length by omega), decide_eq_true hd1, decide_eq_true hd2]; rfl
        have HRUN := Lib.hid hrun
        clear hrun
        go_wp2_with fail
        obtain ⟨w1, hw1⟩ : ∃ w1, w1 = w.alloc (.cells #[.slice A0 o.length c0, .int .i64 f1, .int .i64 f2, v3, .bool f4, .int .i64 f5] 61) := ⟨_, rfl⟩
        rw [← hw1]
        have E0 := Lib.hid (show EBlk w1 w.heap.size 61 (.slice A0 o.length c0) f1 f2 v3 f4 f5 by rw [hw1]; exact EBlk.new w 61 _ _ _ _ _ _)
        have B0 := Lib.hid (show Below w.heap.size w w1 by rw [hw1]; exact below_one _ _)
        clear hw1
        refine (in74_calls f1 w1).mono ?_
        rintro e w2 ⟨rfl, hb⟩
        replace E0 := Lib.hid (E0.out.below hb)
        replace B0 := Lib.hid (bb B0.out hb)
        clear hb
        cases h1 : oddT f1
        · have x2 := E0.out.c2
          go_wp2_with fail
          refine (in74_calls f2 w2).mono ?_
          rintro e w3 ⟨rfl, hb⟩
          replace E0 := Lib.hid (E0.out.below hb)
          replace B0 := Lib.hid (bb B0.out hb)
          clear hb x2
          cases h2 : oddT f2
          · have x0 := E0.out.c0
            go_wp2_with fail
            refine (containsL 73 #[] enters73 A0 c0 o (fun l => !sizedB l.length) _ (Kd.C_below HR.out B0.out) (fun m _ W _ A c hm hc => odd_calls A m.length c W)).mono ?_
            rintro e w4 ⟨rfl, hb⟩
            replace E0 := Lib.hid (E0.out.below hb)
            replace B0 := Lib.hid (bb B0.out hb)
            clear hb x0
            cases h3 : o.any (fun l => !sizedB l.length)
            · have x5 := E0.out.c5
              have x0 := E0.out.c0
              by_cases h4 : f5 = -1
              · exfalso; omega
              · have h4' : (f5 != -1) = true := by simp [h4]
                have H4 := Lib.hid h4'
                clear h4'
                by_cases h5 : (64 : Int) < o.length
                · have H5 := Lib.hid h5
                  go_wp2_with fail
                  go_ret
                  obtain rfl : r = 2 := by rw [R.out]; unfold clCheck; rw [h1, h2, h3, H4.out, HRUN.out, decide_eq_true H5.out]; rfl
                  exact ⟨rfl, B0.out⟩
                · have H5 := Lib.hid h5
                  go_wp2_with fail
                  go_ret
                  obtain rfl : r = 0 := by rw [R.out]; unfold clCheck; rw [h1, h2, h3, H4.out, HRUN.out, decide_eq_false (show ¬ (64 : Int) < o.length by have := H5.out; omega)]; rfl
                  exact ⟨rfl, B0.out⟩
            · go_wp2_with fail
              go_ret
              obtain rfl : r = 1 := by rw [R.out]; unfold clCheck; rw [h1, h2, h3]; rfl
              exact ⟨rfl, B0.out⟩
          · go_wp2_with fail
            go_ret
            obtain rfl : r = 1 := by rw [R.out]; unfold clCheck; rw [h1, h2]; rfl
            exact ⟨rfl, B0.out⟩
        · go_wp2_with fail
          go_ret
          obtain rfl : r = 1 := by rw [R.out]; unfold clCheck; rw [h1]; rfl
          exact ⟨rfl, B0.out⟩
      · have hrun : runB o.length f5 = false := by unfold runB; rw [decide_eq_false hd2, Bool.and_false, Bool.and_false]
        have HRUN := Lib.hid hrun
        clear hrun
        go_wp2_with fail
        obtain ⟨w1, hw1⟩ : ∃ w1, w1 = w.alloc (.cells #[.slice A0 o.length c0, .int .i64 f1, .int .i64 f2, v3, .bool f4, .int .i64 f5] 61) := ⟨_, rfl⟩
        rw [← hw1]
        have E0 := Lib.hid (show EBlk w1 w.heap.size 61 (.slice A0 o.length c0) f1 f2 v3 f4 f5 by rw [hw1]; exact EBlk.new w 61 _ _ _ _ _ _)
        have B0 := Lib.hid (show Below w.heap.size w w1 by rw [hw1]; exact below_one _ _)
        clear hw1
        refine (in74_calls f1 w1).mono ?_
        rintro e w2 ⟨rfl, hb⟩
        replace E0 := Lib.hid (E0.out.below hb)
        replace B0 := Lib.hid (bb B0.out hb)
        clear hb
        cases h1 : oddT f1
        · have x2 := E0.out.c2
          go_wp2_with fail
          refine (in74_calls f2 w2).mono ?_
          rintro e w3 ⟨rfl, hb⟩
          replace E0 := Lib.hid (E0.out.below hb)
          replace B0 := Lib.hid (bb B0.out hb)
          clear hb x2
          cases h2 : oddT f2
          · have x0 := E0.out.c0
            go_wp2_with fail
            refine (containsL 73 #[] enters73 A0 c0 o (fun l => !sizedB l.length) _ (Kd.C_below HR.out B0.out) (fun m _ W _ A c hm hc => odd_calls A m.length c W)).mono ?_
            rintro e w4 ⟨rfl, hb⟩
            replace E0 := Lib.hid (E0.out.below hb)
            replace B0 := Lib.hid (bb B0.out hb)
            clear hb x0
            cases h3 : o.any (fun l => !sizedB l.length)
            · have x5 := E0.out.c5
              have x0 := E0.out.c0
              by_cases h4 : f5 = -1
              · exfalso; omega
              · have h4' : (f5 != -1) = true := by simp [h4]
                have H4 := Lib.hid h4'
                clear h4'
                go_wp2_with fail
                go_ret
                obtain rfl : r = 1 := by rw [R.out]; unfold clCheck; rw [h1, h2, h3, H4.out, HRUN.out]; rfl
                exact ⟨rfl, B0.out⟩
            · go_wp2_with fail
              go_ret
              obtain rfl : r = 1 := by rw [R.out]; unfold clCheck; rw [h1, h2, h3]; rfl
              exact ⟨rfl, B0.out⟩
          · go_wp2_with fail
            go_ret
            obtain rfl : r = 1 := by rw [R.out]; unfold clCheck; rw [h1, h2]; rfl
            exact ⟨rfl, B0.out⟩
        · go_wp2_with fail
          go_ret
          obtain rfl : r = 1 := by rw [R.out]; unfold clCheck; rw [h1]; rfl
          exact ⟨rfl, B0.out⟩
    · have hrun : runB o.length f5 = false := by unfold runB; rw [decide_eq_false hd1, Bool.false_and, Bool.and_false]
      have HRUN := Lib.hid hrun
      clear hrun
      go_wp2_with fail
      obtain ⟨w1, hw1⟩ : ∃ w1, w1 = w.alloc (.cells #[.slice A0 o.length c0, .int .i64 f1, .int .i64 f2, v3, .bool f4, .int .i64 f5] 61) := ⟨_, rfl⟩
      rw [← hw1]
      have E0 := Lib.hid (show EBlk w1 w.heap.size 61 (.slice A0 o.length c0) f1 f2 v3 f4 f5 by rw [hw1]; exact EBlk.new w 61 _ _ _ _ _ _)
      have B0 := Lib.hid (show Below w.heap.size w w1 by rw [hw1]; exact below_one _ _)
      clear hw1
      refine (in74_calls f1 w1).mono ?_
      rintro e w2 ⟨rfl, hb⟩
      replace E0 := Lib.hid (E0.out.below hb)
      replace B0 := Lib.hid (bb B0.out hb)
      clear hb
      cases h1 : oddT f1
      · have x2 := E0.out.c2
        go_wp2_with fail
        refine (in74_calls f2 w2).mono ?_
        rintro e w3 ⟨rfl, hb⟩
        replace E0 := Lib.hid (E0.out.below hb)
        replace B0 := Lib.hid (bb B0.out hb)
        clear hb x2
        cases h2 : oddT f2
        · have x0 := E0.out.c0
          go_wp2_with fail
          refine (containsL 73 #[] enters73 A0 c0 o (fun l => !sizedB l.length) _ (Kd.C_below HR.out B0.out) (fun m _ W _ A c hm hc => odd_calls A m.length c W)).mono ?_
          rintro e w4 ⟨rfl, hb⟩
          replace E0 := Lib.hid (E0.out.below hb)
          replace B0 := Lib.hid (bb B0.out hb)
          clear hb x0
          cases h3 : o.any (fun l => !sizedB l.length)
          · have x5 := E0.out.c5
            have x0 := E0.out.c0
            by_cases h4 : f5 = -1
            · subst h4
              have h4' : ((-1 : Int) != -1) = false := rfl
              have H4 := Lib.hid h4'
              clear h4'
              by_cases h5 : (64 : Int) < o.length
              · have H5 := Lib.hid h5
                go_wp2_with fail
                go_ret
                obtain rfl : r = 2 := by rw [R.out]; unfold clCheck; rw [h1, h2, h3, H4.out, decide_eq_true H5.out]; rfl
                exact ⟨rfl, B0.out⟩
              · have H5 := Lib.hid h5
                go_wp2_with fail
                go_ret
                obtain rfl : r = 0 := by rw [R.out]; unfold clCheck; rw [h1, h2, h3, H4.out, decide_eq_false (show ¬ (64 : Int) < o.length by have := H5.out; omega)]; rfl
                exact ⟨rfl, B0.out⟩
            · have h4' : (f5 != -1) = true := by simp [h4]
              have H4 := Lib.hid h4'
              clear h4'
              go_wp2_with fail
              go_ret
              obtain rfl : r = 1 := by rw [R.out]; unfold clCheck; rw [h1, h2, h3, H4.out, HRUN.out]; rfl
              exact ⟨rfl, B0.out⟩
          · go_wp2_with fail
            go_ret
            obtain rfl : r = 1 := by rw [R.out]; unfold clCheck; rw [h1, h2, h3]; rfl
            exact ⟨rfl, B0.out⟩
        · go_wp2_with fail
          go_ret
          obtain rfl : r = 1 := by rw [R.out]; unfold clCheck; rw [h1, h2]; rfl
          exact ⟨rfl, B0.out⟩
      · go_wp2_with fail
        go_ret
        obtain rfl : r = 1 := by rw [R.out]; unfold clCheck; rw [h1]; rfl
        exact ⟨rfl, B0.out⟩
  · have hrun : runB o.length f5 = false := by unfold runB; rw [decide_eq_false (show ¬ (0 : Int) < o.length by omega), Bool.false_and]
    have HRUN := Lib.hid hrun
    clear hrun
    go_wp2_with fail
    obtain ⟨w1, hw1⟩ : ∃ w1, w1 = w.alloc (.cells #[.slice A0 o.length c0, .int .i64 f1, .int .i64 f2, v3, .bool f4, .int .i64 f5] 61) := ⟨_, rfl⟩
    rw [← hw1]
    have E0 := Lib.hid (show EBlk w1 w.heap.size 61 (.slice A0 o.length c0) f1 f2 v3 f4 f5 by rw [hw1]; exact EBlk.new w 61 _ _ _ _ _ _)
    have B0 := Lib.hid (show Below w.heap.size w w1 by rw [hw1]; exact below_one _ _)
    clear hw1
    refine (in74_calls f1 w1).mono ?_
    rintro e w2 ⟨rfl, hb⟩
    replace E0 := Lib.hid (E0.out.below hb)
    replace B0 := Lib.hid (bb B0.out hb)
    clear hb
    cases h1 : oddT f1
    · have x2 := E0.out.c2
      go_wp2_with fail
      refine (in74_calls f2 w2).mono ?_
      rintro e w3 ⟨rfl, hb⟩
      replace E0 := Lib.hid (E0.out.below hb)
      replace B0 := Lib.hid (bb B0.out hb)
      clear hb x2
      cases h2 : oddT f2
      · have x0 := E0.out.c0
        go_wp2_with fail
        refine (containsL 73 #[] enters73 A0 c0 o (fun l => !sizedB l.length) _ (Kd.C_below HR.out B0.out) (fun m _ W _ A c hm hc => odd_calls A m.length c W)).mono ?_
        rintro e w4 ⟨rfl, hb⟩
        replace E0 := Lib.hid (E0.out.below hb)
        replace B0 := Lib.hid (bb B0.out hb)
        clear hb x0
        cases h3 : o.any (fun l => !sizedB l.length)
        · have x5 := E0.out.c5
          have x0 := E0.out.c0
          by_cases h4 : f5 = -1
          · subst h4
            have h4' : ((-1 : Int) != -1) = false := rfl
            have H4 := Lib.hid h4'
            clear h4'
            by_cases h5 : (64 : Int) < o.length
            · exfalso; omega
            · have H5 := Lib.hid h5
              go_wp2_with fail
              go_ret
              obtain rfl : r = 0 := by rw [R.out]; unfold clCheck; rw [h1, h2, h3, H4.out, decide_eq_false (show ¬ (64 : Int) < o.length by have := H5.out; omega)]; rfl
              exact ⟨rfl, B0.out⟩
          · have h4' : (f5 != -1) = true := by simp [h4]
            have H4 := Lib.hid h4'
            clear h4'
            go_wp2_with fail
            go_ret
            obtain rfl : r = 1 := by rw [R.out]; unfold clCheck; rw [h1, h2, h3, H4.out, HRUN.out]; rfl
            exact ⟨rfl, B0.out⟩
        · go_wp2_with fail
          go_ret
          obtain rfl : r = 1 := by rw [R.out]; unfold clCheck; rw [h1, h2, h3]; rfl
          exact ⟨rfl, B0.out⟩
      · go_wp2_with fail
        go_ret
        obtain rfl : r = 1 := by rw [R.out]; unfold clCheck; rw [h1, h2]; rfl
        exact ⟨rfl, B0.out⟩
    · go_wp2_with fail
      go_ret
      obtain rfl : r = 1 := by rw [R.out]; unfold clCheck; rw [h1]; rfl
      exact ⟨rfl, B0.out⟩
end Go.Proofs.Ytbfhohpbldadbaa.P

namespace Go.Proofs.Ytbfhohpbldadbaa.P
open Go Go.RowKit Go.Proofs.YtbfhohpbldadbaaW.PrintWords Go.Proofs.YtbfhohpbldadbaaW.PrintLast Go.Proofs.YtbfhohpbldadbaaW.PrintMore
set_option linter.unusedVariables false
set_option linter.unusedSimpArgs false
theorem info28 : (Try.prog.info? 28).map (fun i => (i.zero, i.size, i.bytes)) = some (some (.slice none 0 0), 1, 24) := by kernel_rfl
theorem wid {n : Int} (h0 : 0 ≤ n) (h1 : n ≤ 9000000000000000000) : wrap64 n = n := by simp only [wrap64, IntKind.wrap]; omega
abbrev kL : Kd (List S39) := Kd.slice 39 k39
set_option maxHeartbeats 4000000 in
set_option maxRecDepth 100000 in
theorem clones_calls (A : Option Addr) (c : Nat) (xs : List (List S39)) (w : World) (hr : Kd.C kL w A xs.length xs) (hl : xs.length ≤ 1024) (hl2 : ∀ l ∈ xs, l.length ≤ 1024) :
    Calls Try.prog 90 #[.slice A xs.length c] w fun e w' => ∃ v', e = .returned v' ∧ Kd.R kL 28 w' w.heap.size (fun _ => True) v' xs ∧ Below w.heap.size w w' := by
  have HR := Lib.hid hr; have HL := Lib.hid hl; have HL2 := Lib.hid hl2
  clear hr hl hl2
  go_enter Try.func90, Try.ntmps90
  go_wp2_with fail
  go_loopw [3, 5, 8] (fun v3 _ i W => ∃ k : Nat, k ≤ xs.length ∧ i = .int .i64 k ∧ Kd.R kL 28 W w.heap.size (fun _ => True) v3 (xs.take k) ∧ Below w.heap.size w W) (fun _ _ i _ => xs.length - (intOf i).toNat)
  case atStart => exact ⟨0, Nat.zero_le _, rfl, Kd.R_nil _ _ _ _ _, Below.refl _ _⟩
  case round =>
    obtain ⟨k, hk, rfl, hR, hb⟩ := hrel
    have HK := Lib.hid hk; have HO := Lib.hid hR; have HB := Lib.hid hb
    clear hk hR hb
    by_cases hlt : k < xs.length
    · have HLT := Lib.hid hlt
      obtain ⟨ad, A0, k0, rfl, hat⟩ := L_cell (Kd.C_below HR.out HB.out) k hlt hlt
      obtain ⟨m, hm⟩ : ∃ m, m = xs[k]'hlt := ⟨_, rfl⟩
      replace hat : AtL wr (ad.add k) A0 k0 m := by rw [hm]; exact hat
      have HM := Lib.hid hm
      have c0 := hat.c0; have HC := Lib.hid hat.cc
      have hml : m.length ≤ 1024 := HL2.out m (by rw [hm]; exact List.getElem_mem hlt)
      have HML := Lib.hid hml
      clear hat hm hml
      go_wp2_with fail
      refine (cloneR A0 k0 m _ HC.out (by have := HML.out; omega)).mono ?_
      rintro e w2 ⟨v', rfl, ho, hb⟩
      obtain ⟨A2, k2, rfl⟩ := Kd.R_slice ho
      have HO2 := Lib.hid ho; have HB2 := Lib.hid hb
      clear ho hb c0
      go_wp2_with ((with_reducible refine gate_builtin (b := .append) (xs := #[.tmp 12, .tmp 15]) rfl ?_); at_builtin; refine Kd.R_append kL (w0 := w) w.heap.size rfl (.tmp 12) (.tmp 15) 59 28 (.slice none 0 0) 24 rfl Try.underlying59 info28 rfl (by decide) (by decide) u3 (xs.take k) m [.slice A2 m.length k2] (fun _ => True) (fun k => some k ≠ (u3 : Value).ownBlock) rfl rfl ⟨_, rfl, Kd.R_lower (Kd.R_mono (Kd.R_newR HO2.out HO.out) (fun _ h => h.2)) HB.out.size⟩ (fun _ h => ⟨trivial, h⟩) (fun _ _ => trivial) (Kd.R_below HO.out HB2.out) (bb HB.out HB2.out) (Nat.le_trans HB.out.size HB2.out.size) (by have := HL.out; have := HLT.out; rw [List.length_take]; omega) ?_; intro v3 w4 ho4 hb4 hg4 hat4)
      go_roundw
      case rel =>
        have hl := HL.out
        have hlt := HLT.out
        refine ⟨k + 1, HLT.out, (show Value.int .i64 (wrap64 ((k : Int) + 1)) = Value.int .i64 ((k + 1 : Nat) : Int) by rw [wid (by omega) (by omega)]; rfl), ?_, hb4⟩
        rw [List.take_succ_eq_append_getElem HLT.out, ← HM.out]
        exact ho4
      case measure =>
        have hl := HL.out
        have hlt := HLT.out
        rw [wid (n := (k : Int) + 1) (by omega) (by omega)]
        simp only [intOf]
        omega
    · go_wp2
      go_ret
      refine ⟨_, rfl, ?_, HB.out⟩
      have h1 := HO.out
      rwa [List.take_of_length_le (by omega)] at h1
end Go.Proofs.Ytbfhohpbldadbaa.P

namespace Go.Proofs.Ytbfhohpbldadbaa.P
open Go Go.RowKit Go.Proofs.YtbfhohpbldadbaaW.PrintWords Go.Proofs.YtbfhohpbldadbaaW.PrintLast Go.Proofs.YtbfhohpbldadbaaW.PrintMore
set_option linter.unusedVariables false
set_option linter.unusedSimpArgs false

/-- An end under modification, of the call's own. -/
structure EdW (w W : World) (g : Nat) (vo : Value) (o : List (List S39)) (f1 f2 : Int) (vi : Value) (inn : List S39) (f4 : Bool) (f5 : Int) : Prop where
  low : Below w.heap.size w W
  ge : w.heap.size ≤ g
  blk : EBlk W g 117 vo f1 f2 vi f4 f5
  out : Kd.R kL 28 W w.heap.size (fun k => True ∧ some k ≠ vi.ownBlock) vo o
  inn : Kd.R k39 39 W w.heap.size (fun _ => True) vi inn
theorem EdW.below {w W W' : World} {g : Nat} {vo vi : Value} {o : List (List S39)} {inn : List S39} {f1 f2 f5 : Int} {f4 : Bool} (h : EdW w W g vo o f1 f2 vi inn f4 f5) (hb : Below W.heap.size W W') : EdW w W' g vo o f1 f2 vi inn f4 f5 :=
  ⟨bb h.low hb, h.ge, h.blk.below hb, Kd.R_below h.out hb, Kd.R_below h.inn hb⟩
def EditPost (o : List (List S39)) (f1 f2 : Int) (inn : List S39) (f4 : Bool) (f5 : Int) (w : World) (e : Ending) (w' : World) : Prop :=
  (clCheck o f1 f2 f5 ≠ 0 ∧ e = .returned (.tuple #[.pointer none, .int .i64 (clCheck o f1 f2 f5)]) ∧ Below w.heap.size w w') ∨ (clCheck o f1 f2 f5 = 0 ∧ ∃ g vo vi, e = .returned (.tuple #[.pointer (some ⟨g, 0, none⟩), .int .i64 0]) ∧ EdW w w' g vo o f1 f2 vi inn f4 f5)
theorem check_sized {o : List (List S39)} {f1 f2 f5 : Int} (h : clCheck o f1 f2 f5 = 0) : o.length ≤ 64 ∧ (∀ l ∈ o, 1 ≤ l.length ∧ l.length ≤ 1024) ∧ 0 ≤ f1 ∧ f1 ≤ 1099511627776 ∧ 0 ≤ f2 ∧ f2 ≤ 1099511627776 ∧ (f5 = -1 ∨ (0 < o.length ∧ 0 ≤ f5 ∧ f5 ≤ 1099511627779)) := by
  unfold clCheck at h
  split at h
  · cases h
  · next h1 =>
    split at h
    · cases h
    · next h2 =>
      split at h
      · cases h
      · next h3 =>
        simp only [Bool.or_eq_true, not_or, Bool.not_eq_true, oddT, Bool.or_eq_false_iff, decide_eq_false_iff_not, List.any_eq_false, sizedB, Bool.not_eq_eq_eq_not, Bool.not_true, Bool.and_eq_true, decide_eq_true_eq] at h1
        simp only [decide_eq_true_eq] at h3
        simp only [runB, Bool.and_eq_true, bne_iff_ne, ne_eq, Bool.not_eq_true', Bool.and_eq_false_iff, decide_eq_false_iff_not] at h2
        obtain ⟨⟨h11, h12⟩, h13⟩ := h1
        refine ⟨by omega, fun l hl => ?_, by omega, by omega, by omega, by omega, by omega⟩
        have := h13 l hl
        simp only [Bool.and_eq_false_iff, decide_eq_false_iff_not, not_or, Decidable.not_not] at this
        omega
set_option maxHeartbeats 8000000 in
set_option maxRecDepth 100000 in
theorem edit_calls (A0 : Option Addr) (c0 : Nat) (o : List (List S39)) (f1 f2 : Int) (A3 : Option Addr) (c3 : Nat) (inn : List S39) (f4 : Bool) (f5 : Int) (w : World) (hr : Kd.C kL w A0 o.length o) (hr3 : Kd.C k39 w A3 inn.length inn) (hl : inn.length ≤ 1000000) :
    Calls Try.prog 70 #[.agg #[.slice A0 o.length c0, .int .i64 f1, .int .i64 f2, .slice A3 inn.length c3, .bool f4, .int .i64 f5]] w (EditPost o f1 f2 inn f4 f5 w) := by
  have HR := Lib.hid hr; have HR3 := Lib.hid hr3; have HL := Lib.hid hl
  clear hr hr3 hl
  go_enter Try.func70, Try.ntmps70
  go_wp2_with fail
  obtain ⟨w1, hw1⟩ : ∃ w1, w1 = w.alloc (.cells #[.slice A0 o.length c0, .int .i64 f1, .int .i64 f2, .slice A3 inn.length c3, .bool f4, .int .i64 f5] 61) := ⟨_, rfl⟩
  rw [← hw1]
  have E0 := Lib.hid (show EBlk w1 w.heap.size 61 (.slice A0 o.length c0) f1 f2 (.slice A3 inn.length c3) f4 f5 by rw [hw1]; exact EBlk.new w 61 _ _ _ _ _ _)
  have B0 := Lib.hid (show Below w.heap.size w w1 by rw [hw1]; exact below_one _ _)
  clear hw1
  refine (clCheck_calls A0 c0 o f1 f2 (.slice A3 inn.length c3) f4 f5 w1 (Kd.C_below HR.out B0.out)).mono ?_
  rintro e w2 ⟨rfl, hb⟩
  replace E0 := Lib.hid (E0.out.below hb)
  replace B0 := Lib.hid (bb B0.out hb)
  clear hb
  cases hc : (clCheck o f1 f2 f5 != 0)
  · have hz : clCheck o f1 f2 f5 = 0 := by simpa using hc
    have HZ := Lib.hid hz
    rw [hz] at hc ⊢
    have hsz := check_sized hz
    have SZ := Lib.hid hsz
    clear hz hsz
    go_wp2_with fail
    refine start_ (n := 10) (S := fun w' => w'.cell? ⟨w.heap.size, 0, none⟩ = some (.slice A0 o.length c0) ∧ w'.cell? ⟨w.heap.size, 3, none⟩ = some (.slice A3 inn.length c3)) (ds := [7, 9]) #[false, false, false, false, false, false, false, false, false, false] (by kernel_rfl) rfl rfl ⟨E0.out.c0, E0.out.c3⟩ (fun hHeld => ?_)
    refine pure_ (i := 0) (N := some 10) (v := ?_) (a' := ?_) #[true, false, false, false, false, false, false, false, false, false] rfl rfl (by kernel_rfl) (fun _ _ _ h => h) (Or.inl ⟨by rfl, ?_⟩) ?_ ?_
    rotate_left
    · intro w'
      go_simp
      with_reducible rfl
    rotate_left
    · simp only [Act.put, List.setIfInBounds_toArray, List.set_cons_zero, List.set_cons_succ, i64_w, i32_w]
      rfl
    refine pure_ (i := 3) (N := some 13) (v := ?_) (a' := ?_) #[true, false, false, true, false, false, false, false, false, false] rfl rfl (by kernel_rfl) (fun _ _ _ h => h) (Or.inl ⟨by rfl, ?_⟩) ?_ ?_
    rotate_left
    · intro w'
      go_simp
      with_reducible rfl
    rotate_left
    · simp only [Act.put, List.setIfInBounds_toArray, List.set_cons_zero, List.set_cons_succ, i64_w, i32_w]
      rfl
    refine take_ (i := 1) (N := some 11) (v := ?_) (a' := ?_) #[true, true, false, true, false, false, false, false, false, false] rfl rfl (by kernel_rfl) (fun _ _ _ h => h) (Or.inl ⟨by rfl, ?_⟩) hHeld ?_ ?_
    rotate_left
    · rintro w' ⟨s0, s1⟩
      go_simp
      with_reducible rfl
    rotate_left
    · simp only [Act.put, List.setIfInBounds_toArray, List.set_cons_zero, List.set_cons_succ, i64_w, i32_w]
      rfl
    refine take_ (i := 4) (N := some 14) (v := ?_) (a' := ?_) #[true, true, false, true, true, false, false, false, false, false] rfl rfl (by kernel_rfl) (fun _ _ _ h => h) (Or.inl ⟨by rfl, ?_⟩) hHeld ?_ ?_
    rotate_left
    · rintro w' ⟨s0, s1⟩
      go_simp
      with_reducible rfl
    rotate_left
    · simp only [Act.put, List.setIfInBounds_toArray, List.set_cons_zero, List.set_cons_succ, i64_w, i32_w]
      rfl
    refine one_ (i := 2) (N := some 12) #[true, true, true, true, true, false, false, false, false, false] rfl rfl (by kernel_rfl) (by decide) (fun K hK => ?_)
    refine goes_ Try.func90 (by kernel_rfl) rfl #[.slice A0 o.length c0] (by rfl) rfl rfl (by simp only [List.map_toArray, List.map_cons, List.map_nil]; rfl) ?_
    with_reducible refine (clones_calls A0 c0 o _ (Kd.C_drew (Kd.C_below HR.out B0.out)) (by have := SZ.out.1; omega) (fun l hl => (SZ.out.2.1 l hl).2)).mono ?_
    rintro e w3 ⟨vo, rfl, hO, hb⟩
    refine ⟨_, rfl, ?_⟩
    have B3 := Lib.hid (bb (below_drew B0.out) hb)
    have E3 := Lib.hid (EBlk.below (w := w2) E0.out (bb (below_drew (Below.refl _ _)) hb))
    obtain ⟨Ao, ko, rfl⟩ := Kd.R_slice hO
    have HO := Lib.hid hO
    clear hO hb
    refine hK.out _ _ ⟨E3.out.c0, E3.out.c3⟩ (fun hHeld => ?_)
    clear hK K
    refine norm_ (a' := ?_) ?_ ?_
    rotate_left
    · show Act.put _ (some 12) _ = _
      simp only [Act.put, List.setIfInBounds_toArray, List.set_cons_zero, List.set_cons_succ, i64_w, i32_w]
      rfl
    refine pure_ (i := 6) (N := some 16) (v := ?_) (a' := ?_) #[true, true, true, true, true, false, true, false, false, false] rfl rfl (by kernel_rfl) (fun _ _ _ h => h) (Or.inl ⟨by rfl, ?_⟩) ?_ ?_
    rotate_left
    · intro w'
      go_simp
      with_reducible rfl
    rotate_left
    · simp only [Act.put, List.setIfInBounds_toArray, List.set_cons_zero, List.set_cons_succ, i64_w, i32_w]
      rfl
    refine one_ (i := 5) (N := some 15) #[true, true, true, true, true, true, true, false, false, false] rfl rfl (by kernel_rfl) (by decide) (fun K hK => ?_)
    refine goes_ Try.func72 (by kernel_rfl) rfl #[.slice A3 inn.length c3] (by rfl) rfl rfl (by simp only [List.map_toArray, List.map_cons, List.map_nil]; rfl) ?_
    with_reducible refine (cloneR A3 c3 inn w3 (Kd.C_below HR3.out B3.out) (by have := HL.out; omega)).mono ?_
    rintro e w4 ⟨vi, rfl, hI, hb⟩
    refine ⟨_, rfl, ?_⟩
    obtain ⟨Ai, ki, rfl⟩ := Kd.R_slice hI
    have B4 := Lib.hid (bb B3.out hb)
    have E4 := Lib.hid (E3.out.below hb)
    have HO4 := Lib.hid (Kd.R_elder HO.out hI hb)
    have HI4 := Lib.hid hI
    clear hI hb
    refine hK.out _ _ ⟨E4.out.c0, E4.out.c3⟩ (fun hHeld => ?_)
    clear hK K
    refine norm_ (a' := ?_) ?_ ?_
    rotate_left
    · show Act.put _ (some 15) _ = _
      simp only [Act.put, List.setIfInBounds_toArray, List.set_cons_zero, List.set_cons_succ, i64_w, i32_w]
      rfl
    refine last_ (i := 7) (N := none) #[true, true, true, true, true, true, true, true, false, false] rfl rfl (by kernel_rfl) (by decide) (fun K hK => ?_)
    have q1 := E4.out.c0; have q2 := blk_frozen E4.out 0
    refine skip_ (w1 := ?_) (by rfl) rfl ?_ ?_
    rotate_left
    · go_simp
      rfl
    have E5 := Lib.hid (show EBlk (w4.setCell ⟨w.heap.size, 0, none⟩ (.slice Ao o.length ko)) w.heap.size 61 (.slice Ao o.length ko) f1 f2 (.slice A3 inn.length c3) f4 f5 from blk_put E4.out 0 _ rfl)
    clear q1 q2
    generalize hw5 : w4.setCell ⟨w.heap.size, 0, none⟩ (.slice Ao o.length ko) = w5 at E5 ⊢
    have HW5 := Lib.hid hw5
    clear hw5
    refine hK.out _ _ ?_
    clear hK K
    refine pure_ (i := 8) (N := some 17) (v := ?_) (a' := ?_) #[true, true, true, true, true, true, true, true, true, false] rfl rfl (by kernel_rfl) (fun _ _ _ h => h) (Or.inl ⟨by rfl, ?_⟩) ?_ ?_
    rotate_left
    · intro w'
      go_simp
      with_reducible rfl
    rotate_left
    · simp only [Act.put, List.setIfInBounds_toArray, List.set_cons_zero, List.set_cons_succ, i64_w, i32_w]
      rfl
    refine last_ (i := 9) (N := none) #[true, true, true, true, true, true, true, true, true, true] rfl rfl (by kernel_rfl) (by decide) (fun K hK => ?_)
    have q1 := E5.out.c3; have q2 := blk_frozen E5.out 3
    refine skip_ (w1 := ?_) (by rfl) rfl ?_ ?_
    rotate_left
    · go_simp
      rfl
    refine hK.out _ _ ?_
    clear hK K
    refine done_ (by kernel_rfl) ?_

    obtain ⟨w6, hw6⟩ : ∃ w6, w6 = w5.setCell ⟨w.heap.size, 3, none⟩ (.slice Ai inn.length ki) := ⟨_, rfl⟩
    rw [← hw6]
    have E6 := Lib.hid (show EBlk w6 w.heap.size 61 (.slice Ao o.length ko) f1 f2 (.slice Ai inn.length ki) f4 f5 by rw [hw6]; exact blk_put E5.out 3 _ rfl)
    have HO6 := Lib.hid (show Kd.R kL 28 w6 w.heap.size (fun k => True ∧ some k ≠ (Value.slice Ai inn.length ki).ownBlock) (.slice Ao o.length ko) o by
      rw [hw6]; refine Kd.R_set (Kd.R_lower ?_ B0.out.size) E5.out (by decide) 3 _
      rw [← HW5.out]; exact Kd.R_set HO4.out E4.out (by decide) 0 _)
    have HI6 := Lib.hid (show Kd.R k39 39 w6 w.heap.size (fun _ => True) (.slice Ai inn.length ki) inn by
      rw [hw6]; refine Kd.R_set (Kd.R_lower ?_ B3.out.size) E5.out (by decide) 3 _
      rw [← HW5.out]; exact Kd.R_set HI4.out E4.out (by decide) 0 _)
    have B6 := Lib.hid (show Below w.heap.size w w6 by
      rw [hw6]
      refine Fr.below (Fr.set w5 w.heap.size 3 _) ?_ (Nat.le_refl _) (fun k hk => by omega)
      rw [← HW5.out]
      exact Fr.below (Fr.set w4 w.heap.size 0 _) B4.out (Nat.le_refl _) (fun k hk => by omega))
    clear hw6
    have x0 := E6.out.c0; have x1 := E6.out.c1; have x2 := E6.out.c2; have x3 := E6.out.c3; have x4 := E6.out.c4; have x5 := E6.out.c5
    go_wp2_with fail
    go_ret2
    refine Or.inr ⟨HZ.out, w6.heap.size, _, _, rfl, al B6.out _, B6.out.size, EBlk.new w6 117 _ _ _ _ _ _, Kd.R_alloc HO6.out _, Kd.R_alloc HI6.out _⟩
  · obtain ⟨r, hr'⟩ : ∃ r, r = clCheck o f1 f2 f5 := ⟨_, rfl⟩
    rw [← hr'] at hc ⊢
    have R := Lib.hid hr'
    have HC := Lib.hid (show r ≠ 0 by simpa using hc)
    clear hr'
    go_wp2_with fail
    go_ret2
    exact Or.inl ⟨by rw [← R.out]; exact HC.out, by rw [← R.out]; rfl, B0.out⟩
end Go.Proofs.Ytbfhohpbldadbaa.P

namespace Go.Proofs.Ytbfhohpbldadbaa.P
open Go Go.RowKit Go.Proofs.YtbfhohpbldadbaaW.PrintWords Go.Proofs.YtbfhohpbldadbaaW.PrintLast Go.Proofs.YtbfhohpbldadbaaW.PrintMore
set_option linter.unusedVariables false
set_option linter.unusedSimpArgs false
/-- The cells of a batch. -/
def BBlk (w : World) (g : Nat) (no : Int) (ack : Bool) (v : Value) : Prop := w.heap[g]? = some (.cells #[.int .i64 no, .bool ack, v] 83 (0, 0))
section
variable {w w' : World} {g : Nat} {no : Int} {ack : Bool} {v : Value}
theorem BBlk.c0 (h : BBlk w g no ack v) : w.cell? ⟨g, 0, none⟩ = some (.int .i64 no) := (cell_of_row w g 0 _ 83 (0, 0) h).trans rfl
theorem BBlk.c1 (h : BBlk w g no ack v) : w.cell? ⟨g, 1, none⟩ = some (.bool ack) := (cell_of_row w g 1 _ 83 (0, 0) h).trans rfl
theorem BBlk.c2 (h : BBlk w g no ack v) : w.cell? ⟨g, 2, none⟩ = some v := (cell_of_row w g 2 _ 83 (0, 0) h).trans rfl
theorem BBlk.below (h : BBlk w g no ack v) (hb : Below w.heap.size w w') : BBlk w' g no ack v := (hb.block g (heap_lt h)).trans h
theorem BBlk.new (w : World) (no : Int) (ack : Bool) (v : Value) : BBlk (w.alloc (.cells #[.int .i64 no, .bool ack, v] 83)) w.heap.size no ack v := heap_alloc_new w _
end
/-- An end under modification, as it will be read. -/
structure EdV (w W : World) (g : Nat) (vo : Value) (o : List (List S39)) (f1 f2 : Int) (vi : Value) (inn : List S39) (f4 : Bool) (f5 : Int) : Prop where
  low : Below w.heap.size w W
  blk : EBlk W g 117 vo f1 f2 vi f4 f5
  out : Kd.V kL 28 W w.heap.size (fun k => w.heap.size ≤ k) vo o
  inn : Kd.V k39 39 W w.heap.size (fun k => w.heap.size ≤ k) vi inn
theorem EdW.v {w W : World} {g : Nat} {vo vi : Value} {o : List (List S39)} {inn : List S39} {f1 f2 f5 : Int} {f4 : Bool} (h : EdW w W g vo o f1 f2 vi inn f4 f5) : EdV w W g vo o f1 f2 vi inn f4 f5 :=
  ⟨h.low, h.blk, Kd.R_V (Kd.R_mono (Kd.R_bound h.out) (fun _ hk => hk.2.1)), Kd.R_V (Kd.R_mono (Kd.R_bound h.inn) (fun _ hk => hk.2.1))⟩
theorem below_set {B : Nat} {w W : World} (h : Below B w W) (hB : B ≤ w.heap.size) {g : Nat} (hg : B ≤ g) (j : Nat) (u : Value) : Below B w (W.setCell ⟨g, j, none⟩ u) :=
  Fr.below (Fr.set W g j u) h hB (fun k hk => by omega)
theorem EdW.set {w W : World} {g : Nat} {vo vi : Value} {o : List (List S39)} {inn : List S39} {f1 f2 f5 : Int} {f4 : Bool} (h : EdW w W g vo o f1 f2 vi inn f4 f5) {f1' f2' f5' : Int} {f4' : Bool} (j : Nat) (u : Value)
    (hu : (#[vo, .int .i64 f1, .int .i64 f2, vi, .bool f4, .int .i64 f5] : Array Value).setIfInBounds j u = #[vo, .int .i64 f1', .int .i64 f2', vi, .bool f4', .int .i64 f5']) : EdW w (W.setCell ⟨g, j, none⟩ u) g vo o f1' f2' vi inn f4' f5' :=
  ⟨below_set h.low (Nat.le_refl _) h.ge j u, h.ge, blk_put h.blk j u hu, Kd.R_set h.out h.blk (by decide) j u, Kd.R_set h.inn h.blk (by decide) j u⟩
def AccPost (o : List (List S39)) (f1 f2 : Int) (inn : List S39) (f4 : Bool) (f5 : Int) (no : Int) (recs : List S39) (w : World) (g : Nat) (vo vi : Value) (e : Ending) (W' : World) : Prop :=
  (f2 < no ∧ e = .returned (.int .i64 300) ∧ Below w.heap.size w W') ∨ (no = f2 ∧ e = .returned (.int .i64 0) ∧ ∃ vi', EdW w W' g vo o f1 (f2 + 1) vi' (inn ++ recs) true f5) ∨ (no < f2 ∧ e = .returned (.int .i64 0) ∧ EdW w W' g vo o f1 f2 vi inn true f5)

set_option maxHeartbeats 8000000 in
set_option maxRecDepth 100000 in
theorem accept_calls (w : World) (g : Nat) (vo vi : Value) (o : List (List S39)) (f1 f2 : Int) (inn : List S39) (f4 : Bool) (f5 no : Int) (ack : Bool) (A2 : Option Addr) (c2 : Nat) (recs : List S39) (W : World) (hE : EdW w W g vo o f1 f2 vi inn f4 f5) (hr : Kd.C k39 W A2 recs.length recs) (hn0 : 0 ≤ f2) (hn1 : f2 ≤ 1099511627776) (hl : inn.length ≤ 1000000) (hl2 : recs.length ≤ 1024) :
    Calls Try.prog 76 #[.pointer (some ⟨g, 0, none⟩), .agg #[.int .i64 no, .bool ack, .slice A2 recs.length c2]] W (AccPost o f1 f2 inn f4 f5 no recs w g vo vi) := by
  have HE := Lib.hid hE; have HR := Lib.hid hr; have HN0 := Lib.hid hn0; have HN1 := Lib.hid hn1; have HL := Lib.hid hl; have HL2 := Lib.hid hl2
  clear hE hr hn0 hn1 hl hl2
  go_enter Try.func76, Try.ntmps76
  go_wp2_with fail
  obtain ⟨w1, hw1⟩ : ∃ w1, w1 = W.alloc (.cells #[.int .i64 no, .bool ack, .slice A2 recs.length c2] 83) := ⟨_, rfl⟩
  rw [← hw1]
  have X0 := Lib.hid (show BBlk w1 W.heap.size no ack (.slice A2 recs.length c2) by rw [hw1]; exact BBlk.new W _ _ _)
  have E0 := Lib.hid (show EdW w w1 g vo o f1 f2 vi inn f4 f5 by rw [hw1]; exact HE.out.below (below_one _ _))
  have C0 := Lib.hid (show Kd.C k39 w1 A2 recs.length recs by rw [hw1]; exact Kd.C_below HR.out (below_one _ _))
  clear hw1 HE HR
  generalize W.heap.size = gb at X0 ⊢
  have X := Lib.hid (show BBlk w1.drew gb no ack (.slice A2 recs.length c2) from X0.out.below (below_drew (Below.refl _ _)))
  have E := Lib.hid (show EdW w w1.drew g vo o f1 f2 vi inn f4 f5 from E0.out.below (below_drew (Below.refl _ _)))
  have C := Lib.hid (show Kd.C k39 w1.drew A2 recs.length recs from Kd.C_drew C0.out)
  clear X0 E0 C0
  refine start_ (n := 8) (S := fun w' => w'.cell? ⟨gb, 0, none⟩ = some (.int .i64 no) ∧ w'.cell? ⟨g, 2, none⟩ = some (.int .i64 f2)) (ds := []) #[false, false, false, false, false, false, false, false] (by kernel_rfl) rfl rfl ⟨X.out.c0, E.out.blk.c2⟩ (fun hHeld => ?_)
  generalize w1.drew = w2 at X E C hHeld ⊢
  refine pure_ (i := 0) (N := some 5) (v := ?_) (a' := ?_) #[true, false, false, false, false, false, false, false] rfl rfl (by kernel_rfl) (fun _ _ _ h => h) (Or.inl ⟨by rfl, ?_⟩) ?_ ?_
  rotate_left
  · intro w'
    go_simp
    with_reducible rfl
  rotate_left
  · simp only [Act.put, List.setIfInBounds_toArray, List.set_cons_zero, List.set_cons_succ, i64_w, i32_w]
    rfl
  refine pure_ (i := 2) (N := some 7) (v := ?_) (a' := ?_) #[true, false, true, false, false, false, false, false] rfl rfl (by kernel_rfl) (fun _ _ _ h => h) (Or.inl ⟨by rfl, ?_⟩) ?_ ?_
  rotate_left
  · intro w'
    go_simp
    with_reducible rfl
  rotate_left
  · simp only [Act.put, List.setIfInBounds_toArray, List.set_cons_zero, List.set_cons_succ, i64_w, i32_w]
    rfl
  refine pure_ (i := 3) (N := some 8) (v := ?_) (a' := ?_) #[true, false, true, true, false, false, false, false] rfl rfl (by kernel_rfl) (fun _ _ _ h => h) (Or.inl ⟨by rfl, ?_⟩) ?_ ?_
  rotate_left
  · intro w'
    go_simp
    with_reducible rfl
  rotate_left
  · simp only [Act.put, List.setIfInBounds_toArray, List.set_cons_zero, List.set_cons_succ, i64_w, i32_w]
    rfl
  refine pure_ (i := 4) (N := some 9) (v := ?_) (a' := ?_) #[true, false, true, true, true, false, false, false] rfl rfl (by kernel_rfl) (fun _ _ _ h => h) (Or.inl ⟨by rfl, ?_⟩) ?_ ?_
  rotate_left
  · intro w'
    go_simp
    with_reducible rfl
  rotate_left
  · simp only [Act.put, List.setIfInBounds_toArray, List.set_cons_zero, List.set_cons_succ, i64_w, i32_w]
    rfl
  refine pure_ (i := 5) (N := some 10) (v := ?_) (a' := ?_) #[true, false, true, true, true, true, false, false] rfl rfl (by kernel_rfl) (fun _ _ _ h => h) (Or.inl ⟨by rfl, ?_⟩) ?_ ?_
  rotate_left
  · intro w'
    go_simp
    with_reducible rfl
  rotate_left
  · simp only [Act.put, List.setIfInBounds_toArray, List.set_cons_zero, List.set_cons_succ, i64_w, i32_w]
    rfl
  refine take_ (i := 1) (N := some 6) (v := ?_) (a' := ?_) #[true, true, true, true, true, true, false, false] rfl rfl (by kernel_rfl) (fun _ _ _ h => h) (Or.inl ⟨by rfl, ?_⟩) hHeld ?_ ?_
  rotate_left
  · rintro w' ⟨s0, s1⟩
    go_simp
    with_reducible rfl
  rotate_left
  · simp only [Act.put, List.setIfInBounds_toArray, List.set_cons_zero, List.set_cons_succ, i64_w, i32_w]
    rfl
  refine take_ (i := 6) (N := some 11) (v := ?_) (a' := ?_) #[true, true, true, true, true, true, true, false] rfl rfl (by kernel_rfl) (fun _ _ _ h => h) (Or.inl ⟨by rfl, ?_⟩) hHeld ?_ ?_
  rotate_left
  · rintro w' ⟨s0, s1⟩
    go_simp
    with_reducible rfl
  rotate_left
  · simp only [Act.put, List.setIfInBounds_toArray, List.set_cons_zero, List.set_cons_succ, i64_w, i32_w]
    rfl
  refine pure_ (i := 7) (N := some 12) (v := ?_) (a' := ?_) #[true, true, true, true, true, true, true, true] rfl rfl (by kernel_rfl) (fun _ _ _ h => h) (Or.inl ⟨by rfl, ?_⟩) ?_ ?_
  rotate_left
  · intro w'
    go_simp
    with_reducible rfl
  rotate_left
  · simp only [Act.put, List.setIfInBounds_toArray, List.set_cons_zero, List.set_cons_succ, i64_w, i32_w]
    rfl
  refine done_ (by kernel_rfl) ?_

  by_cases h1 : f2 < no
  · go_wp2_with fail
    go_ret
    exact Or.inl ⟨h1, rfl, E.out.low⟩
  · go_wp2_with fail
    have H1 := Lib.hid h1
    replace X := Lib.hid (show BBlk w2.drew gb no ack (.slice A2 recs.length c2) from X.out.below (below_drew (Below.refl _ _)))
    replace E := Lib.hid (show EdW w w2.drew g vo o f1 f2 vi inn f4 f5 from E.out.below (below_drew (Below.refl _ _)))
    replace C := Lib.hid (show Kd.C k39 w2.drew A2 recs.length recs from Kd.C_drew C.out)
    clear hHeld
    refine start_ (n := 8) (S := fun w' => w'.cell? ⟨gb, 0, none⟩ = some (.int .i64 no) ∧ w'.cell? ⟨g, 2, none⟩ = some (.int .i64 f2)) (ds := []) #[false, false, false, false, false, false, false, false] (by kernel_rfl) rfl rfl ⟨X.out.c0, E.out.blk.c2⟩ (fun hHeld => ?_)
    generalize w2.drew = w3 at X E C hHeld ⊢
    refine pure_ (i := 0) (N := some 13) (v := ?_) (a' := ?_) #[true, false, false, false, false, false, false, false] rfl rfl (by kernel_rfl) (fun _ _ _ h => h) (Or.inl ⟨by rfl, ?_⟩) ?_ ?_
    rotate_left
    · intro w'
      go_simp
      with_reducible rfl
    rotate_left
    · simp only [Act.put, List.setIfInBounds_toArray, List.set_cons_zero, List.set_cons_succ, i64_w, i32_w]
      rfl
    refine pure_ (i := 2) (N := some 15) (v := ?_) (a' := ?_) #[true, false, true, false, false, false, false, false] rfl rfl (by kernel_rfl) (fun _ _ _ h => h) (Or.inl ⟨by rfl, ?_⟩) ?_ ?_
    rotate_left
    · intro w'
      go_simp
      with_reducible rfl
    rotate_left
    · simp only [Act.put, List.setIfInBounds_toArray, List.set_cons_zero, List.set_cons_succ, i64_w, i32_w]
      rfl
    refine pure_ (i := 3) (N := some 16) (v := ?_) (a' := ?_) #[true, false, true, true, false, false, false, false] rfl rfl (by kernel_rfl) (fun _ _ _ h => h) (Or.inl ⟨by rfl, ?_⟩) ?_ ?_
    rotate_left
    · intro w'
      go_simp
      with_reducible rfl
    rotate_left
    · simp only [Act.put, List.setIfInBounds_toArray, List.set_cons_zero, List.set_cons_succ, i64_w, i32_w]
      rfl
    refine pure_ (i := 4) (N := some 17) (v := ?_) (a' := ?_) #[true, false, true, true, true, false, false, false] rfl rfl (by kernel_rfl) (fun _ _ _ h => h) (Or.inl ⟨by rfl, ?_⟩) ?_ ?_
    rotate_left
    · intro w'
      go_simp
      with_reducible rfl
    rotate_left
    · simp only [Act.put, List.setIfInBounds_toArray, List.set_cons_zero, List.set_cons_succ, i64_w, i32_w]
      rfl
    refine pure_ (i := 5) (N := some 18) (v := ?_) (a' := ?_) #[true, false, true, true, true, true, false, false] rfl rfl (by kernel_rfl) (fun _ _ _ h => h) (Or.inl ⟨by rfl, ?_⟩) ?_ ?_
    rotate_left
    · intro w'
      go_simp
      with_reducible rfl
    rotate_left
    · simp only [Act.put, List.setIfInBounds_toArray, List.set_cons_zero, List.set_cons_succ, i64_w, i32_w]
      rfl
    refine take_ (i := 1) (N := some 14) (v := ?_) (a' := ?_) #[true, true, true, true, true, true, false, false] rfl rfl (by kernel_rfl) (fun _ _ _ h => h) (Or.inl ⟨by rfl, ?_⟩) hHeld ?_ ?_
    rotate_left
    · rintro w' ⟨s0, s1⟩
      go_simp
      with_reducible rfl
    rotate_left
    · simp only [Act.put, List.setIfInBounds_toArray, List.set_cons_zero, List.set_cons_succ, i64_w, i32_w]
      rfl
    refine take_ (i := 6) (N := some 19) (v := ?_) (a' := ?_) #[true, true, true, true, true, true, true, false] rfl rfl (by kernel_rfl) (fun _ _ _ h => h) (Or.inl ⟨by rfl, ?_⟩) hHeld ?_ ?_
    rotate_left
    · rintro w' ⟨s0, s1⟩
      go_simp
      with_reducible rfl
    rotate_left
    · simp only [Act.put, List.setIfInBounds_toArray, List.set_cons_zero, List.set_cons_succ, i64_w, i32_w]
      rfl
    refine pure_ (i := 7) (N := some 20) (v := ?_) (a' := ?_) #[true, true, true, true, true, true, true, true] rfl rfl (by kernel_rfl) (fun _ _ _ h => h) (Or.inl ⟨by rfl, ?_⟩) ?_ ?_
    rotate_left
    · intro w'
      go_simp
      with_reducible rfl
    rotate_left
    · simp only [Act.put, List.setIfInBounds_toArray, List.set_cons_zero, List.set_cons_succ, i64_w, i32_w]
      rfl
    refine done_ (by kernel_rfl) ?_

    by_cases h2 : no = f2
    · subst h2
      go_wp2_with fail
      replace X := Lib.hid (show BBlk w3.drew gb no ack (.slice A2 recs.length c2) from X.out.below (below_drew (Below.refl _ _)))
      replace E := Lib.hid (show EdW w w3.drew g vo o f1 no vi inn f4 f5 from E.out.below (below_drew (Below.refl _ _)))
      replace C := Lib.hid (show Kd.C k39 w3.drew A2 recs.length recs from Kd.C_drew C.out)
      obtain ⟨Ai, ki, rfl⟩ := Kd.R_slice E.out.inn
      clear hHeld
      refine start_ (n := 13) (S := fun w' => w'.cell? ⟨g, 3, none⟩ = some (.slice Ai inn.length ki) ∧ w'.cell? ⟨gb, 2, none⟩ = some (.slice A2 recs.length c2)) (ds := [12]) #[false, false, false, false, false, false, false, false, false, false, false, false, false] (by kernel_rfl) rfl rfl ⟨E.out.blk.c3, X.out.c2⟩ (fun hHeld => ?_)
      generalize w3.drew = w4 at X E C hHeld ⊢
      refine pure_ (i := 0) (N := some 21) (v := ?_) (a' := ?_) #[true, false, false, false, false, false, false, false, false, false, false, false, false] rfl rfl (by kernel_rfl) (fun _ _ _ h => h) (Or.inl ⟨by rfl, ?_⟩) ?_ ?_
      rotate_left
      · intro w'
        go_simp
        with_reducible rfl
      rotate_left
      · simp only [Act.put, List.setIfInBounds_toArray, List.set_cons_zero, List.set_cons_succ, i64_w, i32_w]
        rfl
      refine pure_ (i := 1) (N := some 22) (v := ?_) (a' := ?_) #[true, true, false, false, false, false, false, false, false, false, false, false, false] rfl rfl (by kernel_rfl) (fun _ _ _ h => h) (Or.inl ⟨by rfl, ?_⟩) ?_ ?_
      rotate_left
      · intro w'
        go_simp
        with_reducible rfl
      rotate_left
      · simp only [Act.put, List.setIfInBounds_toArray, List.set_cons_zero, List.set_cons_succ, i64_w, i32_w]
        rfl
      refine pure_ (i := 2) (N := some 23) (v := ?_) (a' := ?_) #[true, true, true, false, false, false, false, false, false, false, false, false, false] rfl rfl (by kernel_rfl) (fun _ _ _ h => h) (Or.inl ⟨by rfl, ?_⟩) ?_ ?_
      rotate_left
      · intro w'
        go_simp
        with_reducible rfl
      rotate_left
      · simp only [Act.put, List.setIfInBounds_toArray, List.set_cons_zero, List.set_cons_succ, i64_w, i32_w]
        rfl
      refine pure_ (i := 3) (N := some 24) (v := ?_) (a' := ?_) #[true, true, true, true, false, false, false, false, false, false, false, false, false] rfl rfl (by kernel_rfl) (fun _ _ _ h => h) (Or.inl ⟨by rfl, ?_⟩) ?_ ?_
      rotate_left
      · intro w'
        go_simp
        with_reducible rfl
      rotate_left
      · simp only [Act.put, List.setIfInBounds_toArray, List.set_cons_zero, List.set_cons_succ, i64_w, i32_w]
        rfl
      refine pure_ (i := 4) (N := some 25) (v := ?_) (a' := ?_) #[true, true, true, true, true, false, false, false, false, false, false, false, false] rfl rfl (by kernel_rfl) (fun _ _ _ h => h) (Or.inl ⟨by rfl, ?_⟩) ?_ ?_
      rotate_left
      · intro w'
        go_simp
        with_reducible rfl
      rotate_left
      · simp only [Act.put, List.setIfInBounds_toArray, List.set_cons_zero, List.set_cons_succ, i64_w, i32_w]
        rfl
      refine pure_ (i := 6) (N := some 27) (v := ?_) (a' := ?_) #[true, true, true, true, true, false, true, false, false, false, false, false, false] rfl rfl (by kernel_rfl) (fun _ _ _ h => h) (Or.inl ⟨by rfl, ?_⟩) ?_ ?_
      rotate_left
      · intro w'
        go_simp
        with_reducible rfl
      rotate_left
      · simp only [Act.put, List.setIfInBounds_toArray, List.set_cons_zero, List.set_cons_succ, i64_w, i32_w]
        rfl
      refine take_ (i := 5) (N := some 26) (v := ?_) (a' := ?_) #[true, true, true, true, true, true, true, false, false, false, false, false, false] rfl rfl (by kernel_rfl) (fun _ _ _ h => h) (Or.inl ⟨by rfl, ?_⟩) hHeld ?_ ?_
      rotate_left
      · rintro w' ⟨s0, s1⟩
        go_simp
        with_reducible rfl
      rotate_left
      · simp only [Act.put, List.setIfInBounds_toArray, List.set_cons_zero, List.set_cons_succ, i64_w, i32_w]
        rfl
      refine take_ (i := 7) (N := some 28) (v := ?_) (a' := ?_) #[true, true, true, true, true, true, true, true, false, false, false, false, false] rfl rfl (by kernel_rfl) (fun _ _ _ h => h) (Or.inl ⟨by rfl, ?_⟩) hHeld ?_ ?_
      rotate_left
      · rintro w' ⟨s0, s1⟩
        go_simp
        with_reducible rfl
      rotate_left
      · simp only [Act.put, List.setIfInBounds_toArray, List.set_cons_zero, List.set_cons_succ, i64_w, i32_w]
        rfl
      refine one_ (i := 8) (N := some 29) #[true, true, true, true, true, true, true, true, true, false, false, false, false] rfl rfl (by kernel_rfl) (by decide) (fun K hK => ?_)
      refine app39 w.heap.size (by rfl) (.tmp 26) (.tmp 28) (by rfl) (.slice Ai inn.length ki) inn recs A2 recs.length c2 (by rfl) (by rfl) E.out.inn C.out E.out.low.size (by have := HL.out; have := HL2.out; omega) ?_
      intro v3 w5 hR3 hg3 hat3
      obtain ⟨A5, k5, rfl⟩ := Kd.R_slice hR3
      have hlen : (inn ++ recs).length = inn.length + recs.length := List.length_append
      simp only [hlen] at hR3 hat3 hg3 ⊢
      clear hlen
      have E5 := Lib.hid (show EBlk w5 g 117 vo f1 no (.slice Ai inn.length ki) f4 f5 from blk_grown E.out.blk hg3 (Kd.R_ne E.out.inn E.out.blk (by decide)))
      have X5 := Lib.hid (show BBlk w5 gb no ack (.slice A2 recs.length c2) from blk_grown X.out hg3 (Kd.R_ne E.out.inn X.out (by decide)))
      have O5 := Lib.hid (Kd.R_after E.out.out hg3 hat3)
      have I5 := Lib.hid hR3
      have B5 := Lib.hid (Fr.below (Fr.of_grown hg3) E.out.low (Nat.le_refl _) (fun k hk => Kd.R_base E.out.inn k hk.symm))
      clear hR3 hg3 hat3
      refine hK.out _ _ ⟨E5.out.c3, X5.out.c2⟩ (fun hHeld => ?_)
      clear hK K
      refine norm_ (a' := ?_) ?_ ?_
      rotate_left
      · show Act.put _ (some 29) _ = _
        simp only [Act.put, List.setIfInBounds_toArray, List.set_cons_zero, List.set_cons_succ, i64_w, i32_w]
        rfl
      refine pure_ (i := 9) (N := some 30) (v := ?_) (a' := ?_) #[true, true, true, true, true, true, true, true, true, true, false, false, false] rfl rfl (by kernel_rfl) (fun _ _ _ h => h) (Or.inl ⟨by rfl, ?_⟩) ?_ ?_
      rotate_left
      · intro w'
        go_simp
        with_reducible rfl
      rotate_left
      · simp only [Act.put, List.setIfInBounds_toArray, List.set_cons_zero, List.set_cons_succ, i64_w, i32_w]
        rfl
      refine pure_ (i := 10) (N := some 31) (v := ?_) (a' := ?_) #[true, true, true, true, true, true, true, true, true, true, true, false, false] rfl rfl (by kernel_rfl) (fun _ _ _ h => h) (Or.inl ⟨by rfl, ?_⟩) ?_ ?_
      rotate_left
      · intro w'
        go_simp
        with_reducible rfl
      rotate_left
      · simp only [Act.put, List.setIfInBounds_toArray, List.set_cons_zero, List.set_cons_succ, i64_w, i32_w]
        rfl
      refine pure_ (i := 11) (N := some 32) (v := ?_) (a' := ?_) #[true, true, true, true, true, true, true, true, true, true, true, true, false] rfl rfl (by kernel_rfl) (fun _ _ _ h => h) (Or.inl ⟨by rfl, ?_⟩) ?_ ?_
      rotate_left
      · intro w'
        go_simp
        with_reducible rfl
      rotate_left
      · simp only [Act.put, List.setIfInBounds_toArray, List.set_cons_zero, List.set_cons_succ, i64_w, i32_w]
        rfl
      refine last_ (i := 12) (N := none) #[true, true, true, true, true, true, true, true, true, true, true, true, true] rfl rfl (by kernel_rfl) (by decide) (fun K hK => ?_)
      have q1 := E5.out.c3; have q2 := blk_frozen E5.out 3
      refine skip_ (w1 := ?_) (by rfl) rfl ?_ ?_
      rotate_left
      · go_simp
        rfl
      refine hK.out _ _ ?_
      clear hK K
      refine done_ (by kernel_rfl) ?_

      obtain ⟨w6, hw6⟩ : ∃ w6, w6 = w5.setCell ⟨g, 3, none⟩ (.slice A5 (inn.length + recs.length) k5) := ⟨_, rfl⟩
      rw [← hw6]
      have E6 := Lib.hid (show EdW w w6 g vo o f1 no (.slice A5 (inn.length + recs.length) k5) (inn ++ recs) f4 f5 by
        rw [hw6]
        exact ⟨below_set B5.out (Nat.le_refl _) E.out.ge 3 _, E.out.ge, blk_put E5.out 3 _ rfl, Kd.R_set O5.out E5.out (by decide) 3 _, Kd.R_set I5.out E5.out (by decide) 3 _⟩)
      clear hw6 E5 X5 O5 I5 B5
      have x2 := E6.out.blk.c2; have z2 := blk_frozen E6.out.blk 2; have x4 := E6.out.blk.c4; have z4 := blk_frozen E6.out.blk 4
      go_wp2_with fail
      go_ret
      have hw := wid (n := no + 1) (by have := HN0.out; omega) (by have := HN1.out; omega)
      refine Or.inr (Or.inl ⟨rfl, rfl, .slice A5 (inn.length + recs.length) k5, ?_⟩)
      exact EdW.set (EdW.set (f2' := no + 1) (f1' := f1) (f5' := f5) (f4' := f4) E6.out 2 (.int .i64 (wrap64 (no + 1))) (by rw [hw]; rfl)) 4 (.bool true) rfl
    · have H2 := Lib.hid h2
      have x4 := E.out.blk.c4; have z4 := blk_frozen E.out.blk 4
      go_wp2_with fail
      go_ret
      exact Or.inr (Or.inr ⟨by have := H1.out; omega, rfl, EdW.set E.out 4 _ rfl⟩)

theorem EBlk.as1 {w : World} {g t : Nat} {v0 v3 : Value} {f1 f1' f2 f5 : Int} {f4 : Bool} (h : EBlk w g t v0 f1 f2 v3 f4 f5) (e : f1 = f1') : EBlk w g t v0 f1' f2 v3 f4 f5 := e ▸ h
def AckPost (o : List (List S39)) (f1 f2 : Int) (inn : List S39) (f4 : Bool) (f5 : Int) (no : Int) (w : World) (g : Nat) (vo vi : Value) (e : Ending) (W' : World) : Prop :=
  (no ≤ f1 ∧ e = .returned (.int .i64 0) ∧ EdW w W' g vo o f1 f2 vi inn f4 f5) ∨ ((f1 < no ∧ (f1 + 1 < no ∨ f5 = -1)) ∧ e = .returned (.int .i64 300) ∧ Below w.heap.size w W') ∨ ((no = f1 + 1 ∧ f5 ≠ -1) ∧ e = .returned (.int .i64 0) ∧ ∃ vo', EdV w W' g vo' (o.drop 1) (f1 + 1) f2 vi inn f4 (-1))
set_option maxHeartbeats 8000000 in
set_option maxRecDepth 100000 in
theorem ack_calls (w : World) (g : Nat) (vo vi : Value) (o : List (List S39)) (f1 f2 : Int) (inn : List S39) (f4 : Bool) (f5 no : Int) (ack : Bool) (v2 : Value) (W : World) (hE : EdW w W g vo o f1 f2 vi inn f4 f5) (hn0 : 0 ≤ f1) (hn1 : f1 ≤ 1099511627776) (hd : f5 ≠ -1 → 0 < o.length) (hv2 : ∃ A n c, v2 = .slice A n c) :
    Calls Try.prog 77 #[.pointer (some ⟨g, 0, none⟩), .agg #[.int .i64 no, .bool ack, v2]] W (AckPost o f1 f2 inn f4 f5 no w g vo vi) := by
  obtain ⟨A2, n2, c2, rfl⟩ := hv2
  have HE := Lib.hid hE; have HN0 := Lib.hid hn0; have HN1 := Lib.hid hn1; have HD := Lib.hid hd
  have hw := wid (n := f1 + 1) (by omega) (by omega)
  obtain ⟨f1s, hf1s⟩ : ∃ f1s, f1s = wrap64 (f1 + 1) := ⟨_, rfl⟩
  have HF1 := Lib.hid (show f1s = f1 + 1 by rw [hf1s]; exact hw)
  have HW := Lib.hid hf1s
  clear hE hn0 hn1 hd hw hf1s
  go_enter Try.func77, Try.ntmps77
  go_wp2_with fail
  obtain ⟨w1, hw1⟩ : ∃ w1, w1 = W.alloc (.cells #[.int .i64 no, .bool ack, .slice A2 n2 c2] 83) := ⟨_, rfl⟩
  rw [← hw1]
  have X0 := Lib.hid (show BBlk w1 W.heap.size no ack (.slice A2 n2 c2) by rw [hw1]; exact BBlk.new W _ _ _)
  have E0 := Lib.hid (show EdW w w1 g vo o f1 f2 vi inn f4 f5 by rw [hw1]; exact HE.out.below (below_one _ _))
  clear hw1 HE
  generalize W.heap.size = gb at X0 ⊢
  have X := Lib.hid (show BBlk w1.drew gb no ack (.slice A2 n2 c2) from X0.out.below (below_drew (Below.refl _ _)))
  have E := Lib.hid (show EdW w w1.drew g vo o f1 f2 vi inn f4 f5 from E0.out.below (below_drew (Below.refl _ _)))
  clear X0 E0
  refine start_ (n := 9) (S := fun w' => w'.cell? ⟨gb, 0, none⟩ = some (.int .i64 no) ∧ w'.cell? ⟨g, 1, none⟩ = some (.int .i64 f1)) (ds := []) #[false, false, false, false, false, false, false, false, false] (by kernel_rfl) rfl rfl ⟨X.out.c0, E.out.blk.c1⟩ (fun hHeld => ?_)
  generalize w1.drew = w2 at X E hHeld ⊢
  refine pure_ (i := 0) (N := some 6) (v := ?_) (a' := ?_) #[true, false, false, false, false, false, false, false, false] rfl rfl (by kernel_rfl) (fun _ _ _ h => h) (Or.inl ⟨by rfl, ?_⟩) ?_ ?_
  rotate_left
  · intro w'
    go_simp
    with_reducible rfl
  rotate_left
  · simp only [Act.put, List.setIfInBounds_toArray, List.set_cons_zero, List.set_cons_succ, i64_w, i32_w]
    rfl
  refine pure_ (i := 2) (N := some 8) (v := ?_) (a' := ?_) #[true, false, true, false, false, false, false, false, false] rfl rfl (by kernel_rfl) (fun _ _ _ h => h) (Or.inl ⟨by rfl, ?_⟩) ?_ ?_
  rotate_left
  · intro w'
    go_simp
    with_reducible rfl
  rotate_left
  · simp only [Act.put, List.setIfInBounds_toArray, List.set_cons_zero, List.set_cons_succ, i64_w, i32_w]
    rfl
  refine pure_ (i := 3) (N := some 9) (v := ?_) (a' := ?_) #[true, false, true, true, false, false, false, false, false] rfl rfl (by kernel_rfl) (fun _ _ _ h => h) (Or.inl ⟨by rfl, ?_⟩) ?_ ?_
  rotate_left
  · intro w'
    go_simp
    with_reducible rfl
  rotate_left
  · simp only [Act.put, List.setIfInBounds_toArray, List.set_cons_zero, List.set_cons_succ, i64_w, i32_w]
    rfl
  refine pure_ (i := 4) (N := some 10) (v := ?_) (a' := ?_) #[true, false, true, true, true, false, false, false, false] rfl rfl (by kernel_rfl) (fun _ _ _ h => h) (Or.inl ⟨by rfl, ?_⟩) ?_ ?_
  rotate_left
  · intro w'
    go_simp
    with_reducible rfl
  rotate_left
  · simp only [Act.put, List.setIfInBounds_toArray, List.set_cons_zero, List.set_cons_succ, i64_w, i32_w]
    rfl
  refine pure_ (i := 5) (N := some 11) (v := ?_) (a' := ?_) #[true, false, true, true, true, true, false, false, false] rfl rfl (by kernel_rfl) (fun _ _ _ h => h) (Or.inl ⟨by rfl, ?_⟩) ?_ ?_
  rotate_left
  · intro w'
    go_simp
    with_reducible rfl
  rotate_left
  · simp only [Act.put, List.setIfInBounds_toArray, List.set_cons_zero, List.set_cons_succ, i64_w, i32_w]
    rfl
  refine take_ (i := 1) (N := some 7) (v := ?_) (a' := ?_) #[true, true, true, true, true, true, false, false, false] rfl rfl (by kernel_rfl) (fun _ _ _ h => h) (Or.inl ⟨by rfl, ?_⟩) hHeld ?_ ?_
  rotate_left
  · rintro w' ⟨s0, s1⟩
    go_simp
    with_reducible rfl
  rotate_left
  · simp only [Act.put, List.setIfInBounds_toArray, List.set_cons_zero, List.set_cons_succ, i64_w, i32_w]
    rfl
  refine take_ (i := 6) (N := some 12) (v := ?_) (a' := ?_) #[true, true, true, true, true, true, true, false, false] rfl rfl (by kernel_rfl) (fun _ _ _ h => h) (Or.inl ⟨by rfl, ?_⟩) hHeld ?_ ?_
  rotate_left
  · rintro w' ⟨s0, s1⟩
    go_simp
    with_reducible rfl
  rotate_left
  · simp only [Act.put, List.setIfInBounds_toArray, List.set_cons_zero, List.set_cons_succ, i64_w, i32_w]
    rfl
  refine pure_ (i := 7) (N := some 13) (v := ?_) (a' := ?_) #[true, true, true, true, true, true, true, true, false] rfl rfl (by kernel_rfl) (fun _ _ _ h => h) (Or.inl ⟨by rfl, ?_⟩) ?_ ?_
  rotate_left
  · intro w'
    go_simp
    with_reducible rfl
  rotate_left
  · simp only [Act.put, List.setIfInBounds_toArray, List.set_cons_zero, List.set_cons_succ, i64_w, i32_w]
    rfl
  refine pure_ (i := 8) (N := some 5) (v := ?_) (a' := ?_) #[true, true, true, true, true, true, true, true, true] rfl rfl (by kernel_rfl) (fun _ _ _ h => h) (Or.inl ⟨by rfl, ?_⟩) ?_ ?_
  rotate_left
  · intro w'
    go_simp
    with_reducible rfl
  rotate_left
  · simp only [Act.put, List.setIfInBounds_toArray, List.set_cons_zero, List.set_cons_succ, i64_w, i32_w]
    rfl
  refine done_ (by kernel_rfl) ?_

  by_cases h1 : no ≤ f1
  · go_wp2_with fail
    go_ret
    exact Or.inl ⟨h1, rfl, E.out⟩
  · go_wp2_with fail
    have H1 := Lib.hid h1
    replace X := Lib.hid (show BBlk w2.drew gb no ack (.slice A2 n2 c2) from X.out.below (below_drew (Below.refl _ _)))
    replace E := Lib.hid (show EdW w w2.drew g vo o f1 f2 vi inn f4 f5 from E.out.below (below_drew (Below.refl _ _)))
    clear hHeld
    cases h2 : decide (wrap64 (f1 + 1) < no)
    · skip
      refine start_ (n := 18) (S := fun w' => w'.cell? ⟨gb, 0, none⟩ = some (.int .i64 no) ∧ w'.cell? ⟨g, 1, none⟩ = some (.int .i64 f1) ∧ w'.cell? ⟨g, 5, none⟩ = some (.int .i64 f5)) (ds := []) #[false, false, false, false, false, false, false, false, false, false, false, false, false, false, false, false, false, false] (by kernel_rfl) rfl rfl ⟨X.out.c0, E.out.blk.c1, E.out.blk.c5⟩ (fun hHeld => ?_)
      generalize w2.drew = w3 at X E hHeld ⊢
      refine pure_ (i := 0) (N := some 15) (v := ?_) (a' := ?_) #[true, false, false, false, false, false, false, false, false, false, false, false, false, false, false, false, false, false] rfl rfl (by kernel_rfl) (fun _ _ _ h => h) (Or.inl ⟨by rfl, ?_⟩) ?_ ?_
      rotate_left
      · intro w'
        go_simp
        with_reducible rfl
      rotate_left
      · simp only [Act.put, List.setIfInBounds_toArray, List.set_cons_zero, List.set_cons_succ, i64_w, i32_w]
        rfl
      refine pure_ (i := 2) (N := some 17) (v := ?_) (a' := ?_) #[true, false, true, false, false, false, false, false, false, false, false, false, false, false, false, false, false, false] rfl rfl (by kernel_rfl) (fun _ _ _ h => h) (Or.inl ⟨by rfl, ?_⟩) ?_ ?_
      rotate_left
      · intro w'
        go_simp
        with_reducible rfl
      rotate_left
      · simp only [Act.put, List.setIfInBounds_toArray, List.set_cons_zero, List.set_cons_succ, i64_w, i32_w]
        rfl
      refine pure_ (i := 3) (N := some 18) (v := ?_) (a' := ?_) #[true, false, true, true, false, false, false, false, false, false, false, false, false, false, false, false, false, false] rfl rfl (by kernel_rfl) (fun _ _ _ h => h) (Or.inl ⟨by rfl, ?_⟩) ?_ ?_
      rotate_left
      · intro w'
        go_simp
        with_reducible rfl
      rotate_left
      · simp only [Act.put, List.setIfInBounds_toArray, List.set_cons_zero, List.set_cons_succ, i64_w, i32_w]
        rfl
      refine pure_ (i := 4) (N := some 19) (v := ?_) (a' := ?_) #[true, false, true, true, true, false, false, false, false, false, false, false, false, false, false, false, false, false] rfl rfl (by kernel_rfl) (fun _ _ _ h => h) (Or.inl ⟨by rfl, ?_⟩) ?_ ?_
      rotate_left
      · intro w'
        go_simp
        with_reducible rfl
      rotate_left
      · simp only [Act.put, List.setIfInBounds_toArray, List.set_cons_zero, List.set_cons_succ, i64_w, i32_w]
        rfl
      refine pure_ (i := 5) (N := some 20) (v := ?_) (a' := ?_) #[true, false, true, true, true, true, false, false, false, false, false, false, false, false, false, false, false, false] rfl rfl (by kernel_rfl) (fun _ _ _ h => h) (Or.inl ⟨by rfl, ?_⟩) ?_ ?_
      rotate_left
      · intro w'
        go_simp
        with_reducible rfl
      rotate_left
      · simp only [Act.put, List.setIfInBounds_toArray, List.set_cons_zero, List.set_cons_succ, i64_w, i32_w]
        rfl
      refine take_ (i := 1) (N := some 16) (v := ?_) (a' := ?_) #[true, true, true, true, true, true, false, false, false, false, false, false, false, false, false, false, false, false] rfl rfl (by kernel_rfl) (fun _ _ _ h => h) (Or.inl ⟨by rfl, ?_⟩) hHeld ?_ ?_
      rotate_left
      · rintro w' ⟨s0, s1, s2⟩
        go_simp
        with_reducible rfl
      rotate_left
      · simp only [Act.put, List.setIfInBounds_toArray, List.set_cons_zero, List.set_cons_succ, i64_w, i32_w]
        rfl
      refine take_ (i := 6) (N := some 21) (v := ?_) (a' := ?_) #[true, true, true, true, true, true, true, false, false, false, false, false, false, false, false, false, false, false] rfl rfl (by kernel_rfl) (fun _ _ _ h => h) (Or.inl ⟨by rfl, ?_⟩) hHeld ?_ ?_
      rotate_left
      · rintro w' ⟨s0, s1, s2⟩
        go_simp
        with_reducible rfl
      rotate_left
      · simp only [Act.put, List.setIfInBounds_toArray, List.set_cons_zero, List.set_cons_succ, i64_w, i32_w]
        rfl
      refine pure_ (i := 7) (N := some 22) (v := ?_) (a' := ?_) #[true, true, true, true, true, true, true, true, false, false, false, false, false, false, false, false, false, false] rfl rfl (by kernel_rfl) (fun _ _ _ h => h) (Or.inl ⟨by rfl, ?_⟩) ?_ ?_
      rotate_left
      · intro w'
        go_simp
        with_reducible rfl
      rotate_left
      · simp only [Act.put, List.setIfInBounds_toArray, List.set_cons_zero, List.set_cons_succ, i64_w, i32_w]
        rfl
      refine pure_ (i := 8) (N := some 23) (v := ?_) (a' := ?_) #[true, true, true, true, true, true, true, true, true, false, false, false, false, false, false, false, false, false] rfl rfl (by kernel_rfl) (fun _ _ _ h => h) (Or.inl ⟨by rfl, ?_⟩) ?_ ?_
      rotate_left
      · intro w'
        go_simp
        with_reducible rfl
      rotate_left
      · simp only [Act.put, List.setIfInBounds_toArray, List.set_cons_zero, List.set_cons_succ, i64_w, i32_w]
        rfl
      refine pure_ (i := 9) (N := some 24) (v := ?_) (a' := ?_) #[true, true, true, true, true, true, true, true, true, true, false, false, false, false, false, false, false, false] rfl rfl (by kernel_rfl) (fun _ _ _ h => h) (Or.inl ⟨by rfl, ?_⟩) ?_ ?_
      rotate_left
      · intro w'
        go_simp
        with_reducible rfl
      rotate_left
      · simp only [Act.put, List.setIfInBounds_toArray, List.set_cons_zero, List.set_cons_succ, i64_w, i32_w]
        rfl
      refine pure_ (i := 10) (N := some 25) (v := ?_) (a' := ?_) #[true, true, true, true, true, true, true, true, true, true, true, false, false, false, false, false, false, false] rfl rfl (by kernel_rfl) (fun _ _ _ h => h) (Or.inl ⟨by rfl, ?_⟩) ?_ ?_
      rotate_left
      · intro w'
        go_simp
        with_reducible rfl
      rotate_left
      · simp only [Act.put, List.setIfInBounds_toArray, List.set_cons_zero, List.set_cons_succ, i64_w, i32_w]
        rfl
      refine pure_ (i := 11) (N := some 26) (v := ?_) (a' := ?_) #[true, true, true, true, true, true, true, true, true, true, true, true, false, false, false, false, false, false] rfl rfl (by kernel_rfl) (fun _ _ _ h => h) (Or.inl ⟨by rfl, ?_⟩) ?_ ?_
      rotate_left
      · intro w'
        go_simp
        with_reducible rfl
      rotate_left
      · simp only [Act.put, List.setIfInBounds_toArray, List.set_cons_zero, List.set_cons_succ, i64_w, i32_w]
        rfl
      refine pure_ (i := 12) (N := some 27) (v := ?_) (a' := ?_) #[true, true, true, true, true, true, true, true, true, true, true, true, true, false, false, false, false, false] rfl rfl (by kernel_rfl) (fun _ _ _ h => h) (Or.inl ⟨by rfl, ?_⟩) ?_ ?_
      rotate_left
      · intro w'
        go_simp
        with_reducible rfl
      rotate_left
      · simp only [Act.put, List.setIfInBounds_toArray, List.set_cons_zero, List.set_cons_succ, i64_w, i32_w]
        rfl
      refine pure_ (i := 13) (N := some 28) (v := ?_) (a' := ?_) #[true, true, true, true, true, true, true, true, true, true, true, true, true, true, false, false, false, false] rfl rfl (by kernel_rfl) (fun _ _ _ h => h) (Or.inl ⟨by rfl, ?_⟩) ?_ ?_
      rotate_left
      · intro w'
        go_simp
        with_reducible rfl
      rotate_left
      · simp only [Act.put, List.setIfInBounds_toArray, List.set_cons_zero, List.set_cons_succ, i64_w, i32_w]
        rfl
      refine take_ (i := 14) (N := some 29) (v := ?_) (a' := ?_) #[true, true, true, true, true, true, true, true, true, true, true, true, true, true, true, false, false, false] rfl rfl (by kernel_rfl) (fun _ _ _ h => h) (Or.inl ⟨by rfl, ?_⟩) hHeld ?_ ?_
      rotate_left
      · rintro w' ⟨s0, s1, s2⟩
        go_simp
        with_reducible rfl
      rotate_left
      · simp only [Act.put, List.setIfInBounds_toArray, List.set_cons_zero, List.set_cons_succ, i64_w, i32_w]
        rfl
      refine pure_ (i := 15) (N := some 30) (v := ?_) (a' := ?_) #[true, true, true, true, true, true, true, true, true, true, true, true, true, true, true, true, false, false] rfl rfl (by kernel_rfl) (fun _ _ _ h => h) (Or.inl ⟨by rfl, ?_⟩) ?_ ?_
      rotate_left
      · intro w'
        go_simp
        with_reducible rfl
      rotate_left
      · simp only [Act.put, List.setIfInBounds_toArray, List.set_cons_zero, List.set_cons_succ, i64_w, i32_w]
        rfl
      refine pure_ (i := 16) (N := some 31) (v := ?_) (a' := ?_) #[true, true, true, true, true, true, true, true, true, true, true, true, true, true, true, true, true, false] rfl rfl (by kernel_rfl) (fun _ _ _ h => h) (Or.inl ⟨by rfl, ?_⟩) ?_ ?_
      rotate_left
      · intro w'
        go_simp
        with_reducible rfl
      rotate_left
      · simp only [Act.put, List.setIfInBounds_toArray, List.set_cons_zero, List.set_cons_succ, i64_w, i32_w]
        rfl
      refine pure_ (i := 17) (N := some 14) (v := ?_) (a' := ?_) #[true, true, true, true, true, true, true, true, true, true, true, true, true, true, true, true, true, true] rfl rfl (by kernel_rfl) (fun _ _ _ h => h) (Or.inl ⟨by rfl, ?_⟩) ?_ ?_
      rotate_left
      · intro w'
        go_simp
        with_reducible rfl
      rotate_left
      · simp only [Act.put, List.setIfInBounds_toArray, List.set_cons_zero, List.set_cons_succ, i64_w, i32_w]
        rfl
      refine done_ (by kernel_rfl) ?_

      have H2 := Lib.hid (show ¬ f1 + 1 < no by have h := of_decide_eq_false h2; rwa [← HW.out, HF1.out] at h)
      clear h2
      by_cases h3 : f5 = -1
      · have H3 := Lib.hid h3
        subst h3
        go_wp2_with fail
        go_ret
        exact Or.inr (Or.inl ⟨⟨by have := H1.out; omega, Or.inr rfl⟩, rfl, E.out.low⟩)
      · have H3 := Lib.hid h3
        obtain ⟨go, ko, rfl, _, _, _⟩ := Kd.R_form E.out.out (HD.out h3)
        have hd := HD.out h3
        have HRO := Lib.hid (Kd.R_reads' E.out.out)
        have hko := HRO.out.2.1
        have x0 := E.out.blk.c0; have z0 := blk_frozen E.out.blk 0
        have h3b : (f5 == -1) = false := by simpa using h3
        have HDD := Lib.hid hd
        clear hHeld h3
        by_cases hk : ko = 1
        · subst hk
          have hol : o.length = 1 := by omega
          have E1 := Lib.hid (show EBlk (w3.setCell ⟨g, 0, none⟩ (.slice (some ⟨go, 0, none⟩) 0 0)) g 117 (.slice (some ⟨go, 0, none⟩) 0 0) f1 f2 vi f4 f5 from blk_put E.out.blk 0 _ rfl)
          have E2 := Lib.hid (show EBlk ((w3.setCell ⟨g, 0, none⟩ (.slice (some ⟨go, 0, none⟩) 0 0)).setCell ⟨g, 1, none⟩ (.int .i64 (wrap64 (f1 + 1)))) g 117 (.slice (some ⟨go, 0, none⟩) 0 0) (wrap64 (f1 + 1)) f2 vi f4 f5 from blk_put E1.out 1 _ rfl)
          have x1 := E1.out.c1; have z1 := blk_frozen E1.out 1; have x5 := E2.out.c5; have z5 := blk_frozen E2.out 5
          go_wp2_with fail
          go_ret
          have hw := wid (n := f1 + 1) (by have := HN0.out; omega) (by have := HN1.out; omega)
          refine Or.inr (Or.inr ⟨⟨by have := H1.out; have := H2.out; omega, H3.out⟩, rfl, (.slice (some ⟨go, 0, none⟩) 0 0), below_set (below_set (below_set E.out.low (Nat.le_refl _) E.out.ge 0 _) (Nat.le_refl _) E.out.ge 1 _) (Nat.le_refl _) E.out.ge 5 (.int .i64 (-1)), EBlk.as1 (blk_put E2.out 5 (.int .i64 (-1)) rfl) hw, ?_, Kd.R_V (Kd.R_mono (Kd.R_bound (Kd.R_set (Kd.R_set (Kd.R_set E.out.inn E.out.blk (by decide) 0 _) E1.out (by decide) 1 _) E2.out (by decide) 5 _)) (fun _ hk => hk.2.1))⟩)
          have hV := Kd.R_V (base' := w.heap.size) (Kd.R_mono (Kd.R_bound (Kd.R_set (Kd.R_set (Kd.R_set E.out.out E.out.blk (by decide) 0 (.slice (some ⟨go, 0, none⟩) 0 0)) E1.out (by decide) 1 (.int .i64 (wrap64 (f1 + 1)))) E2.out (by decide) 5 (.int .i64 (-1)))) (fun _ hk => hk.2.1))
          have hF := Kd.F_cut (m := 1) (Kd.V_at hV).2.2 (by have := HDD.out; omega) (Kd.V_at hV).2.1
          have hM := Kd.V_mk (e := 28) (base := w.heap.size) (c := 0) (by rw [List.length_drop]; omega) hF
          rw [List.length_drop, hol] at hM
          exact hM
        · have E1 := Lib.hid (show EBlk (w3.setCell ⟨g, 0, none⟩ (.slice (some ⟨go, 1, none⟩) (o.length - 1) (ko - 1))) g 117 (.slice (some ⟨go, 1, none⟩) (o.length - 1) (ko - 1)) f1 f2 vi f4 f5 from blk_put E.out.blk 0 _ rfl)
          have E2 := Lib.hid (show EBlk ((w3.setCell ⟨g, 0, none⟩ (.slice (some ⟨go, 1, none⟩) (o.length - 1) (ko - 1))).setCell ⟨g, 1, none⟩ (.int .i64 (wrap64 (f1 + 1)))) g 117 (.slice (some ⟨go, 1, none⟩) (o.length - 1) (ko - 1)) (wrap64 (f1 + 1)) f2 vi f4 f5 from blk_put E1.out 1 _ rfl)
          have x1 := E1.out.c1; have z1 := blk_frozen E1.out 1; have x5 := E2.out.c5; have z5 := blk_frozen E2.out 5
          go_wp2_with fail
          go_ret
          have hw := wid (n := f1 + 1) (by have := HN0.out; omega) (by have := HN1.out; omega)
          refine Or.inr (Or.inr ⟨⟨by have := H1.out; have := H2.out; omega, H3.out⟩, rfl, (.slice (some ⟨go, 1, none⟩) (o.length - 1) (ko - 1)), below_set (below_set (below_set E.out.low (Nat.le_refl _) E.out.ge 0 _) (Nat.le_refl _) E.out.ge 1 _) (Nat.le_refl _) E.out.ge 5 (.int .i64 (-1)), EBlk.as1 (blk_put E2.out 5 (.int .i64 (-1)) rfl) hw, ?_, Kd.R_V (Kd.R_mono (Kd.R_bound (Kd.R_set (Kd.R_set (Kd.R_set E.out.inn E.out.blk (by decide) 0 _) E1.out (by decide) 1 _) E2.out (by decide) 5 _)) (fun _ hk => hk.2.1))⟩)
          have hV := Kd.R_V (base' := w.heap.size) (Kd.R_mono (Kd.R_bound (Kd.R_set (Kd.R_set (Kd.R_set E.out.out E.out.blk (by decide) 0 (.slice (some ⟨go, 1, none⟩) (o.length - 1) (ko - 1))) E1.out (by decide) 1 (.int .i64 (wrap64 (f1 + 1)))) E2.out (by decide) 5 (.int .i64 (-1)))) (fun _ hk => hk.2.1))
          have hF := Kd.F_cut (m := 1) (Kd.V_at hV).2.2 (by have := HDD.out; omega) (Kd.V_at hV).2.1
          have hM := Kd.V_mk (e := 28) (base := w.heap.size) (c := ko - 1) (by rw [List.length_drop]; omega) hF
          rw [List.length_drop] at hM
          rw [if_neg hk] at hM
          exact hM
    · skip
      refine start_ (n := 18) (S := fun w' => w'.cell? ⟨gb, 0, none⟩ = some (.int .i64 no) ∧ w'.cell? ⟨g, 1, none⟩ = some (.int .i64 f1) ∧ w'.cell? ⟨g, 5, none⟩ = some (.int .i64 f5)) (ds := []) #[false, false, false, false, false, false, false, false, false, false, false, false, false, false, false, false, false, false] (by kernel_rfl) rfl rfl ⟨X.out.c0, E.out.blk.c1, E.out.blk.c5⟩ (fun hHeld => ?_)
      generalize w2.drew = w3 at X E hHeld ⊢
      refine pure_ (i := 0) (N := some 15) (v := ?_) (a' := ?_) #[true, false, false, false, false, false, false, false, false, false, false, false, false, false, false, false, false, false] rfl rfl (by kernel_rfl) (fun _ _ _ h => h) (Or.inl ⟨by rfl, ?_⟩) ?_ ?_
      rotate_left
      · intro w'
        go_simp
        with_reducible rfl
      rotate_left
      · simp only [Act.put, List.setIfInBounds_toArray, List.set_cons_zero, List.set_cons_succ, i64_w, i32_w]
        rfl
      refine pure_ (i := 2) (N := some 17) (v := ?_) (a' := ?_) #[true, false, true, false, false, false, false, false, false, false, false, false, false, false, false, false, false, false] rfl rfl (by kernel_rfl) (fun _ _ _ h => h) (Or.inl ⟨by rfl, ?_⟩) ?_ ?_
      rotate_left
      · intro w'
        go_simp
        with_reducible rfl
      rotate_left
      · simp only [Act.put, List.setIfInBounds_toArray, List.set_cons_zero, List.set_cons_succ, i64_w, i32_w]
        rfl
      refine pure_ (i := 3) (N := some 18) (v := ?_) (a' := ?_) #[true, false, true, true, false, false, false, false, false, false, false, false, false, false, false, false, false, false] rfl rfl (by kernel_rfl) (fun _ _ _ h => h) (Or.inl ⟨by rfl, ?_⟩) ?_ ?_
      rotate_left
      · intro w'
        go_simp
        with_reducible rfl
      rotate_left
      · simp only [Act.put, List.setIfInBounds_toArray, List.set_cons_zero, List.set_cons_succ, i64_w, i32_w]
        rfl
      refine pure_ (i := 4) (N := some 19) (v := ?_) (a' := ?_) #[true, false, true, true, true, false, false, false, false, false, false, false, false, false, false, false, false, false] rfl rfl (by kernel_rfl) (fun _ _ _ h => h) (Or.inl ⟨by rfl, ?_⟩) ?_ ?_
      rotate_left
      · intro w'
        go_simp
        with_reducible rfl
      rotate_left
      · simp only [Act.put, List.setIfInBounds_toArray, List.set_cons_zero, List.set_cons_succ, i64_w, i32_w]
        rfl
      refine pure_ (i := 5) (N := some 20) (v := ?_) (a' := ?_) #[true, false, true, true, true, true, false, false, false, false, false, false, false, false, false, false, false, false] rfl rfl (by kernel_rfl) (fun _ _ _ h => h) (Or.inl ⟨by rfl, ?_⟩) ?_ ?_
      rotate_left
      · intro w'
        go_simp
        with_reducible rfl
      rotate_left
      · simp only [Act.put, List.setIfInBounds_toArray, List.set_cons_zero, List.set_cons_succ, i64_w, i32_w]
        rfl
      refine take_ (i := 1) (N := some 16) (v := ?_) (a' := ?_) #[true, true, true, true, true, true, false, false, false, false, false, false, false, false, false, false, false, false] rfl rfl (by kernel_rfl) (fun _ _ _ h => h) (Or.inl ⟨by rfl, ?_⟩) hHeld ?_ ?_
      rotate_left
      · rintro w' ⟨s0, s1, s2⟩
        go_simp
        with_reducible rfl
      rotate_left
      · simp only [Act.put, List.setIfInBounds_toArray, List.set_cons_zero, List.set_cons_succ, i64_w, i32_w]
        rfl
      refine take_ (i := 6) (N := some 21) (v := ?_) (a' := ?_) #[true, true, true, true, true, true, true, false, false, false, false, false, false, false, false, false, false, false] rfl rfl (by kernel_rfl) (fun _ _ _ h => h) (Or.inl ⟨by rfl, ?_⟩) hHeld ?_ ?_
      rotate_left
      · rintro w' ⟨s0, s1, s2⟩
        go_simp
        with_reducible rfl
      rotate_left
      · simp only [Act.put, List.setIfInBounds_toArray, List.set_cons_zero, List.set_cons_succ, i64_w, i32_w]
        rfl
      refine pure_ (i := 7) (N := some 22) (v := ?_) (a' := ?_) #[true, true, true, true, true, true, true, true, false, false, false, false, false, false, false, false, false, false] rfl rfl (by kernel_rfl) (fun _ _ _ h => h) (Or.inl ⟨by rfl, ?_⟩) ?_ ?_
      rotate_left
      · intro w'
        go_simp
        with_reducible rfl
      rotate_left
      · simp only [Act.put, List.setIfInBounds_toArray, List.set_cons_zero, List.set_cons_succ, i64_w, i32_w]
        rfl
      refine pure_ (i := 8) (N := some 23) (v := ?_) (a' := ?_) #[true, true, true, true, true, true, true, true, true, false, false, false, false, false, false, false, false, false] rfl rfl (by kernel_rfl) (fun _ _ _ h => h) (Or.inl ⟨by rfl, ?_⟩) ?_ ?_
      rotate_left
      · intro w'
        go_simp
        with_reducible rfl
      rotate_left
      · simp only [Act.put, List.setIfInBounds_toArray, List.set_cons_zero, List.set_cons_succ, i64_w, i32_w]
        rfl
      refine pure_ (i := 9) (N := some 24) (v := ?_) (a' := ?_) #[true, true, true, true, true, true, true, true, true, true, false, false, false, false, false, false, false, false] rfl rfl (by kernel_rfl) (fun _ _ _ h => h) (Or.inl ⟨by rfl, ?_⟩) ?_ ?_
      rotate_left
      · intro w'
        go_simp
        with_reducible rfl
      rotate_left
      · simp only [Act.put, List.setIfInBounds_toArray, List.set_cons_zero, List.set_cons_succ, i64_w, i32_w]
        rfl
      refine pure_ (i := 10) (N := some 25) (v := undef) (a' := ?_) #[true, true, true, true, true, true, true, true, true, true, true, false, false, false, false, false, false, false] rfl rfl (by kernel_rfl) (fun _ _ _ h => h) (Or.inr ⟨by rfl, rfl⟩) ?_ ?_
      rotate_left
      · simp only [Act.put, List.setIfInBounds_toArray, List.set_cons_zero, List.set_cons_succ, i64_w, i32_w]
        rfl
      refine pure_ (i := 11) (N := some 26) (v := undef) (a' := ?_) #[true, true, true, true, true, true, true, true, true, true, true, true, false, false, false, false, false, false] rfl rfl (by kernel_rfl) (fun _ _ _ h => h) (Or.inr ⟨by rfl, rfl⟩) ?_ ?_
      rotate_left
      · simp only [Act.put, List.setIfInBounds_toArray, List.set_cons_zero, List.set_cons_succ, i64_w, i32_w]
        rfl
      refine pure_ (i := 12) (N := some 27) (v := undef) (a' := ?_) #[true, true, true, true, true, true, true, true, true, true, true, true, true, false, false, false, false, false] rfl rfl (by kernel_rfl) (fun _ _ _ h => h) (Or.inr ⟨by rfl, rfl⟩) ?_ ?_
      rotate_left
      · simp only [Act.put, List.setIfInBounds_toArray, List.set_cons_zero, List.set_cons_succ, i64_w, i32_w]
        rfl
      refine pure_ (i := 13) (N := some 28) (v := undef) (a' := ?_) #[true, true, true, true, true, true, true, true, true, true, true, true, true, true, false, false, false, false] rfl rfl (by kernel_rfl) (fun _ _ _ h => h) (Or.inr ⟨by rfl, rfl⟩) ?_ ?_
      rotate_left
      · simp only [Act.put, List.setIfInBounds_toArray, List.set_cons_zero, List.set_cons_succ, i64_w, i32_w]
        rfl
      refine pure_ (i := 14) (N := some 29) (v := undef) (a' := ?_) #[true, true, true, true, true, true, true, true, true, true, true, true, true, true, true, false, false, false] rfl rfl (by kernel_rfl) (fun _ _ _ h => h) (Or.inr ⟨by rfl, rfl⟩) ?_ ?_
      rotate_left
      · simp only [Act.put, List.setIfInBounds_toArray, List.set_cons_zero, List.set_cons_succ, i64_w, i32_w]
        rfl
      refine pure_ (i := 15) (N := some 30) (v := undef) (a' := ?_) #[true, true, true, true, true, true, true, true, true, true, true, true, true, true, true, true, false, false] rfl rfl (by kernel_rfl) (fun _ _ _ h => h) (Or.inr ⟨by rfl, rfl⟩) ?_ ?_
      rotate_left
      · simp only [Act.put, List.setIfInBounds_toArray, List.set_cons_zero, List.set_cons_succ, i64_w, i32_w]
        rfl
      refine pure_ (i := 16) (N := some 31) (v := ?_) (a' := ?_) #[true, true, true, true, true, true, true, true, true, true, true, true, true, true, true, true, true, false] rfl rfl (by kernel_rfl) (fun _ _ _ h => h) (Or.inl ⟨by rfl, ?_⟩) ?_ ?_
      rotate_left
      · intro w'
        go_simp
        with_reducible rfl
      rotate_left
      · simp only [Act.put, List.setIfInBounds_toArray, List.set_cons_zero, List.set_cons_succ, i64_w, i32_w]
        rfl
      refine pure_ (i := 17) (N := some 14) (v := ?_) (a' := ?_) #[true, true, true, true, true, true, true, true, true, true, true, true, true, true, true, true, true, true] rfl rfl (by kernel_rfl) (fun _ _ _ h => h) (Or.inl ⟨by rfl, ?_⟩) ?_ ?_
      rotate_left
      · intro w'
        go_simp
        with_reducible rfl
      rotate_left
      · simp only [Act.put, List.setIfInBounds_toArray, List.set_cons_zero, List.set_cons_succ, i64_w, i32_w]
        rfl
      refine done_ (by kernel_rfl) ?_

      have H2 := Lib.hid (show f1 + 1 < no by have h := of_decide_eq_true h2; rwa [← HW.out, HF1.out] at h)
      clear h2
      go_wp2_with fail
      go_ret
      exact Or.inr (Or.inl ⟨⟨by have := H1.out; omega, Or.inl H2.out⟩, rfl, E.out.low⟩)
end Go.Proofs.Ytbfhohpbldadbaa.P

namespace Go.Proofs.Ytbfhohpbldadbaa.P
open Go Go.RowKit Go.Proofs.YtbfhohpbldadbaaW.PrintWords Go.Proofs.YtbfhohpbldadbaaW.PrintLast Go.Proofs.YtbfhohpbldadbaaW.PrintMore
set_option linter.unusedVariables false
set_option linter.unusedSimpArgs false
/-- An end as a value, made from block B on. -/
def EndV (w : World) (B : Nat) (v : Value) (x : S61) : Prop := ∃ vo vi, v = .agg #[vo, .int .i64 x.f1, .int .i64 x.f2, vi, .bool x.f4, .int .i64 x.f5] ∧ Kd.V kL 28 w B (fun k => B ≤ k) vo x.f0 ∧ Kd.V k39 39 w B (fun k => B ≤ k) vi x.f3
/-- The value of an end that came in. -/
def vE (A0 : Option Addr) (c0 : Nat) (A3 : Option Addr) (c3 : Nat) (x : S61) : Value := .agg #[.slice A0 x.f0.length c0, .int .i64 x.f1, .int .i64 x.f2, .slice A3 x.f3.length c3, .bool x.f4, .int .i64 x.f5]
def offF (c : S61) (recs : List S39) : S61 × Int :=
  if clCheck c.f0 c.f1 c.f2 c.f5 ≠ 0 then (z61, clCheck c.f0 c.f1 c.f2 c.f5) else if recs.length = 0 then (z61, 1) else if sizedB recs.length = false ∨ c.f0.length = 64 then (z61, 2) else (⟨c.f0 ++ [recs], c.f1, c.f2, c.f3, c.f4, c.f5⟩, 0)
def Off2 (x : S61) (r : Int) (w : World) (e : Ending) (w' : World) : Prop := ∃ v, e = .returned (.tuple #[v, .int .i64 r]) ∧ EndV w' w.heap.size v x ∧ Below w.heap.size w w'
theorem EndV.zero (w : World) (B : Nat) : EndV w B (.agg #[.slice none 0 0, .int .i64 0, .int .i64 0, .slice none 0 0, .bool false, .int .i64 0]) z61 := ⟨_, _, rfl, Kd.V_nil _ _ _ _ _, Kd.V_nil _ _ _ _ _⟩
theorem six {W : World} {g t : Nat} {a0 a3 : Value} {a1 a2 a5 : Int} {a4 : Bool} (h : EBlk W g t a0 a1 a2 a3 a4 a5) (v0 : Value) (f1 f2 : Int) (v3 : Value) (f4 : Bool) (f5 : Int) :
    ∃ W', W' = (((((W.setCell ⟨g, 0, none⟩ v0).setCell ⟨g, 1, none⟩ (.int .i64 f1)).setCell ⟨g, 2, none⟩ (.int .i64 f2)).setCell ⟨g, 3, none⟩ v3).setCell ⟨g, 4, none⟩ (.bool f4)).setCell ⟨g, 5, none⟩ (.int .i64 f5) ∧ EBlk W' g t v0 f1 f2 v3 f4 f5 ∧ Fr (fun k => k = g) W W' := by
  refine ⟨_, rfl, ?_, ?_⟩
  · exact blk_put (blk_put (blk_put (blk_put (blk_put (blk_put h 0 _ rfl) 1 _ rfl) 2 _ rfl) 3 _ rfl) 4 _ rfl) 5 _ rfl
  · have tr : ∀ {A B C : World}, Fr (fun k => k = g) A B → Fr (fun k => k = g) B C → Fr (fun k => k = g) A C := fun h k => Fr.trans h k (fun _ _ h => h)
    exact tr (tr (tr (tr (tr (Fr.set W g 0 _) (Fr.set _ g 1 _)) (Fr.set _ g 2 _)) (Fr.set _ g 3 _)) (Fr.set _ g 4 _)) (Fr.set _ g 5 _)
theorem V_fr {α : Type} {d : Kd α} {e B B' : Nat} {W W' : World} {v : Value} {xs : List α} {bad : Nat → Prop} (h : Kd.V d e W B (fun k => B ≤ k) v xs) (hf : Fr bad W W') (hb : ∀ k, bad k → k < B) (hB : B' ≤ B) : Kd.V d e W' B' (fun k => B' ≤ k) v xs :=
  Kd.V_mono (Kd.V_step h (fun k hk hlt => hf.same k hlt (fun hx => by have := hb k hx; omega))) (fun k hk => Nat.le_trans hB hk)
set_option maxHeartbeats 8000000 in
set_option maxRecDepth 100000 in
theorem offer_calls (A0 : Option Addr) (c0 : Nat) (A3 : Option Addr) (c3 : Nat) (c : S61) (Ar : Option Addr) (cr : Nat) (recs : List S39) (w : World) (hr : Kd.C kL w A0 c.f0.length c.f0) (hr3 : Kd.C k39 w A3 c.f3.length c.f3) (hl : c.f3.length ≤ 1000000) (hrr : Kd.C k39 w Ar recs.length recs) :
    Calls Try.prog 35 #[vE A0 c0 A3 c3 c, .slice Ar recs.length cr] w (Off2 (offF c recs).1 (offF c recs).2 w) := by
  obtain ⟨o, f1, f2, inn, f4, f5⟩ := c
  simp only at hr hr3 hl
  unfold vE
  simp only
  obtain ⟨x, hx⟩ : ∃ x, x = (offF ⟨o, f1, f2, inn, f4, f5⟩ recs).1 := ⟨_, rfl⟩
  obtain ⟨r, hr'⟩ : ∃ r, r = (offF ⟨o, f1, f2, inn, f4, f5⟩ recs).2 := ⟨_, rfl⟩
  rw [← hx, ← hr']
  have PX := Lib.hid hx; have PR := Lib.hid hr'
  have HR := Lib.hid hr; have HR3 := Lib.hid hr3; have HL := Lib.hid hl; have HRR := Lib.hid hrr
  clear hr hr3 hl hrr hx hr'
  go_enter Try.func35, Try.ntmps35
  go_wp2_with fail
  obtain ⟨w1, hw1⟩ : ∃ w1, w1 = (w.alloc (.cells #[.slice A0 o.length c0, .int .i64 f1, .int .i64 f2, .slice A3 inn.length c3, .bool f4, .int .i64 f5] 61)).alloc (.cells #[.slice none 0 0, .int .i64 0, .int .i64 0, .slice none 0 0, .bool false, .int .i64 0] 61) := ⟨_, rfl⟩
  rw [← hw1]
  have Z := Lib.hid (show EBlk w1 (w.heap.size + 1) 61 (.slice none 0 0) 0 0 (.slice none 0 0) false 0 by rw [hw1]; have h := EBlk.new (w.alloc (.cells #[.slice A0 o.length c0, .int .i64 f1, .int .i64 f2, .slice A3 inn.length c3, .bool f4, .int .i64 f5] 61)) 61 (.slice none 0 0) (.slice none 0 0) 0 0 0 false; rwa [World.size_alloc] at h)
  have B0 := Lib.hid (show Below w.heap.size w w1 by rw [hw1]; exact al (below_one _ _) _)
  have BW := Lib.hid B0.out
  have N1 := Lib.hid (show w1.heap.size = w.heap.size + 2 by rw [hw1]; simp)
  clear hw1
  refine (edit_calls A0 c0 o f1 f2 A3 c3 inn f4 f5 w1 (Kd.C_below HR.out B0.out) (Kd.C_below HR3.out B0.out) HL.out).mono ?_
  rintro e w2 (⟨hne, rfl, hb⟩ | ⟨h0, g, vo, vi, rfl, hE⟩)
  · replace Z := Lib.hid (Z.out.below hb)
    replace B0 := Lib.hid (bb B0.out hb)
    clear hb
    have hz : (clCheck o f1 f2 f5 != 0) = true := by simpa using hne
    obtain ⟨err, herr⟩ : ∃ err, err = clCheck o f1 f2 f5 := ⟨_, rfl⟩
    rw [← herr] at hz hne ⊢
    have HE := Lib.hid herr; have HNE := Lib.hid hne
    clear herr hne
    have z0 := Z.out.c0; have z1 := Z.out.c1; have z2 := Z.out.c2; have z3 := Z.out.c3; have z4 := Z.out.c4; have z5 := Z.out.c5
    have y := blk_frozen Z.out
    go_wp2_with fail
    obtain ⟨w9, hw9, Z9, F9⟩ := six Z.out (.slice none 0 0) (0) (0) (.slice none 0 0) (false) (0)
    rw [← hw9]
    clear hw9
    obtain rfl : err = r := by rw [PR.out]; unfold offF; simp only; rw [if_pos (by rw [← HE.out]; exact HNE.out)]; exact HE.out
    obtain rfl : x = z61 := by rw [PX.out]; unfold offF; simp only; rw [if_pos (by rw [← HE.out]; exact HNE.out)]
    refine bodyPost_ret (v := .tuple #[.agg #[.slice none 0 0, .int .i64 (0), .int .i64 (0), .slice none 0 0, .bool false, .int .i64 (0)], .int .i64 (err)]) (by simp [results, Try.results35, go_sem, Z9.c0, Z9.c1, Z9.c2, Z9.c3, Z9.c4, Z9.c5]) rfl ⟨_, rfl, EndV.zero _ _, Fr.below F9 B0.out (Nat.le_refl _) (fun k hk => by omega)⟩
  · have HZ := Lib.hid h0
    have EE := Lib.hid hE
    replace Z := Lib.hid (Z.out.below hE.low)
    have B1 := Lib.hid (bb B0.out hE.low)
    replace B0 := B1
    clear h0 hE B1
    have z0 := Z.out.c0; have z1 := Z.out.c1; have z2 := Z.out.c2; have z3 := Z.out.c3; have z4 := Z.out.c4; have z5 := Z.out.c5
    have y := blk_frozen Z.out
    by_cases h1 : recs.length = 0
    · have H1 := Lib.hid h1
      go_wp2_with fail
      obtain ⟨w9, hw9, Z9, F9⟩ := six Z.out (.slice none 0 0) (0) (0) (.slice none 0 0) (false) (0)
      rw [← hw9]
      clear hw9
      obtain rfl : r = 1 := by rw [PR.out]; unfold offF; simp only; rw [if_neg (by rw [HZ.out]; simp), if_pos H1.out]
      obtain rfl : x = z61 := by rw [PX.out]; unfold offF; simp only; rw [if_neg (by rw [HZ.out]; simp), if_pos H1.out]
      refine bodyPost_ret (v := .tuple #[.agg #[.slice none 0 0, .int .i64 (0), .int .i64 (0), .slice none 0 0, .bool false, .int .i64 (0)], .int .i64 (1)]) (by simp [results, Try.results35, go_sem, Z9.c0, Z9.c1, Z9.c2, Z9.c3, Z9.c4, Z9.c5]) rfl ⟨_, rfl, EndV.zero _ _, Fr.below F9 B0.out (Nat.le_refl _) (fun k hk => by omega)⟩
    · have H1 := Lib.hid h1
      have h1b : 0 < recs.length := by omega
      clear h1
      go_wp2_with fail
      refine (sized_calls Ar recs.length cr w2).mono ?_
      rintro e w3 ⟨rfl, hb⟩
      replace EE := Lib.hid (EE.out.below hb)
      replace Z := Lib.hid (Z.out.below hb)
      replace B0 := Lib.hid (bb B0.out hb)
      clear hb z0 z1 z2 z3 z4 z5 y
      have z0 := Z.out.c0; have z1 := Z.out.c1; have z2 := Z.out.c2; have z3 := Z.out.c3; have z4 := Z.out.c4; have z5 := Z.out.c5
      have y := blk_frozen Z.out
      cases hs : sizedB recs.length
      · have HS := Lib.hid hs
        go_wp2_with fail
        obtain ⟨w9, hw9, Z9, F9⟩ := six Z.out (.slice none 0 0) (0) (0) (.slice none 0 0) (false) (0)
        rw [← hw9]
        clear hw9
        obtain rfl : r = 2 := by rw [PR.out]; unfold offF; simp only; rw [if_neg (by rw [HZ.out]; simp), if_neg H1.out, if_pos (Or.inl HS.out)]
        obtain rfl : x = z61 := by rw [PX.out]; unfold offF; simp only; rw [if_neg (by rw [HZ.out]; simp), if_neg H1.out, if_pos (Or.inl HS.out)]
        refine bodyPost_ret (v := .tuple #[.agg #[.slice none 0 0, .int .i64 (0), .int .i64 (0), .slice none 0 0, .bool false, .int .i64 (0)], .int .i64 (2)]) (by simp [results, Try.results35, go_sem, Z9.c0, Z9.c1, Z9.c2, Z9.c3, Z9.c4, Z9.c5]) rfl ⟨_, rfl, EndV.zero _ _, Fr.below F9 B0.out (Nat.le_refl _) (fun k hk => by omega)⟩
      · have HS := Lib.hid hs
        obtain ⟨Ao, ko, rfl⟩ := Kd.R_slice EE.out.out
        obtain ⟨Ai, ki, rfl⟩ := Kd.R_slice EE.out.inn
        have x0 := EE.out.blk.c0
        by_cases h6 : (o.length : Int) = 64
        · have H6 := Lib.hid h6
          go_wp2_with fail
          obtain ⟨w9, hw9, Z9, F9⟩ := six Z.out (.slice none 0 0) (0) (0) (.slice none 0 0) (false) (0)
          rw [← hw9]
          clear hw9
          obtain rfl : r = 2 := by rw [PR.out]; unfold offF; simp only; rw [if_neg (by rw [HZ.out]; simp), if_neg H1.out, if_pos (Or.inr (by have := H6.out; omega))]
          obtain rfl : x = z61 := by rw [PX.out]; unfold offF; simp only; rw [if_neg (by rw [HZ.out]; simp), if_neg H1.out, if_pos (Or.inr (by have := H6.out; omega))]
          refine bodyPost_ret (v := .tuple #[.agg #[.slice none 0 0, .int .i64 (0), .int .i64 (0), .slice none 0 0, .bool false, .int .i64 (0)], .int .i64 (2)]) (by simp [results, Try.results35, go_sem, Z9.c0, Z9.c1, Z9.c2, Z9.c3, Z9.c4, Z9.c5]) rfl ⟨_, rfl, EndV.zero _ _, Fr.below F9 B0.out (Nat.le_refl _) (fun k hk => by omega)⟩
        · have H6 := Lib.hid h6
          go_wp2_with fail
          have SZ := Lib.hid (check_sized HZ.out)
          have HSR := Lib.hid (show recs.length ≤ 1024 by have h := HS.out; unfold sizedB at h; simp only [Bool.and_eq_true, decide_eq_true_eq] at h; omega)
          replace EE := Lib.hid (show EdW w1 w3.drew g (.slice Ao o.length ko) o f1 f2 (.slice Ai inn.length ki) inn f4 f5 from EE.out.below (below_drew (Below.refl _ _)))
          replace Z := Lib.hid (show EBlk w3.drew (w.heap.size + 1) 61 (.slice none 0 0) 0 0 (.slice none 0 0) false 0 from Z.out.below (below_drew (Below.refl _ _)))
          have RR := Lib.hid (show Kd.C k39 w3.drew Ar recs.length recs from Kd.C_drew (Kd.C_below HRR.out B0.out))
          clear z0 z1 z2 z3 z4 z5 y x0 B0 h6 hs
          refine start_ (n := 14) (S := fun w' => w'.cell? ⟨g, 0, none⟩ = some (.slice Ao o.length ko)) (ds := [13]) #[false, false, false, false, false, false, false, false, false, false, false, false, false, false] (by kernel_rfl) rfl rfl (EE.out.blk.c0) (fun hHeld => ?_)
          generalize w3.drew = w4 at EE Z RR hHeld ⊢
          refine pure_ (i := 0) (N := some 37) (v := ?_) (a' := ?_) #[true, false, false, false, false, false, false, false, false, false, false, false, false, false] rfl rfl (by kernel_rfl) (fun _ _ _ h => h) (Or.inl ⟨by rfl, ?_⟩) ?_ ?_
          rotate_left
          · intro w'
            go_simp
            with_reducible rfl
          rotate_left
          · simp only [Act.put, List.setIfInBounds_toArray, List.set_cons_zero, List.set_cons_succ, i64_w, i32_w]
            rfl
          refine pure_ (i := 1) (N := some 38) (v := ?_) (a' := ?_) #[true, true, false, false, false, false, false, false, false, false, false, false, false, false] rfl rfl (by kernel_rfl) (fun _ _ _ h => h) (Or.inl ⟨by rfl, ?_⟩) ?_ ?_
          rotate_left
          · intro w'
            go_simp
            with_reducible rfl
          rotate_left
          · simp only [Act.put, List.setIfInBounds_toArray, List.set_cons_zero, List.set_cons_succ, i64_w, i32_w]
            rfl
          refine pure_ (i := 2) (N := some 39) (v := ?_) (a' := ?_) #[true, true, true, false, false, false, false, false, false, false, false, false, false, false] rfl rfl (by kernel_rfl) (fun _ _ _ h => h) (Or.inl ⟨by rfl, ?_⟩) ?_ ?_
          rotate_left
          · intro w'
            go_simp
            with_reducible rfl
          rotate_left
          · simp only [Act.put, List.setIfInBounds_toArray, List.set_cons_zero, List.set_cons_succ, i64_w, i32_w]
            rfl
          refine pure_ (i := 3) (N := some 40) (v := ?_) (a' := ?_) #[true, true, true, true, false, false, false, false, false, false, false, false, false, false] rfl rfl (by kernel_rfl) (fun _ _ _ h => h) (Or.inl ⟨by rfl, ?_⟩) ?_ ?_
          rotate_left
          · intro w'
            go_simp
            with_reducible rfl
          rotate_left
          · simp only [Act.put, List.setIfInBounds_toArray, List.set_cons_zero, List.set_cons_succ, i64_w, i32_w]
            rfl
          refine pure_ (i := 4) (N := some 41) (v := ?_) (a' := ?_) #[true, true, true, true, true, false, false, false, false, false, false, false, false, false] rfl rfl (by kernel_rfl) (fun _ _ _ h => h) (Or.inl ⟨by rfl, ?_⟩) ?_ ?_
          rotate_left
          · intro w'
            go_simp
            with_reducible rfl
          rotate_left
          · simp only [Act.put, List.setIfInBounds_toArray, List.set_cons_zero, List.set_cons_succ, i64_w, i32_w]
            rfl
          refine pure_ (i := 6) (N := some 43) (v := ?_) (a' := ?_) #[true, true, true, true, true, false, true, false, false, false, false, false, false, false] rfl rfl (by kernel_rfl) (fun _ _ _ h => h) (Or.inl ⟨by rfl, ?_⟩) ?_ ?_
          rotate_left
          · intro w'
            go_simp
            with_reducible rfl
          rotate_left
          · simp only [Act.put, List.setIfInBounds_toArray, List.set_cons_zero, List.set_cons_succ, i64_w, i32_w]
            rfl
          refine take_ (i := 5) (N := some 42) (v := ?_) (a' := ?_) #[true, true, true, true, true, true, true, false, false, false, false, false, false, false] rfl rfl (by kernel_rfl) (fun _ _ _ h => h) (Or.inl ⟨by rfl, ?_⟩) hHeld ?_ ?_
          rotate_left
          · intro w' s0
            go_simp
            with_reducible rfl
          rotate_left
          · simp only [Act.put, List.setIfInBounds_toArray, List.set_cons_zero, List.set_cons_succ, i64_w, i32_w]
            rfl
          refine one_ (i := 7) (N := some 44) #[true, true, true, true, true, true, true, true, false, false, false, false, false, false] rfl rfl (by kernel_rfl) (by decide) (fun K hK => ?_)
          refine goes_ Try.func72 (by kernel_rfl) rfl #[.slice Ar recs.length cr] (by rfl) rfl rfl (by simp only [List.map_toArray, List.map_cons, List.map_nil]; rfl) ?_
          with_reducible refine (cloneR Ar cr recs w4 RR.out (by have := HSR.out; omega)).mono ?_
          rintro e w5 ⟨v5, rfl, ho, hb⟩
          refine ⟨_, rfl, ?_⟩
          obtain ⟨Ac, kc, rfl⟩ := Kd.R_slice ho
          have E5 := Lib.hid (EE.out.below hb)
          have Z5 := Lib.hid (Z.out.below hb)
          have HC := Lib.hid (Kd.R_mono (Kd.R_newR ho EE.out.out) (ok' := fun k => some k ≠ (Value.slice Ao o.length ko).ownBlock) (fun _ h => h.2))
          clear ho hb
          refine hK.out _ _ (E5.out.blk.c0) (fun hHeld => ?_)
          clear hK K
          refine norm_ (a' := ?_) ?_ ?_
          rotate_left
          · show Act.put _ (some 44) _ = _
            simp only [Act.put, List.setIfInBounds_toArray, List.set_cons_zero, List.set_cons_succ, i64_w, i32_w]
            rfl
          refine one_ (i := 8) (N := some 45) #[true, true, true, true, true, true, true, true, true, false, false, false, false, false] rfl rfl (by kernel_rfl) (by decide) (fun K hK => ?_)
          refine value_ (w1 := ?_) (v := ?_) (by rfl) rfl ?_ ?_
          rotate_left 2
          · go_simp
            constructor
            · rfl
            · rfl
          refine hK.out _ _ ((E5.out.blk.below (below_one _ _)).c0) (fun hHeld => ?_)
          clear hK K
          refine norm_ (a' := ?_) ?_ ?_
          rotate_left
          · show Act.put _ (some 45) _ = _
            simp only [Act.put, List.setIfInBounds_toArray, List.set_cons_zero, List.set_cons_succ, i64_w, i32_w]
            rfl
          refine one_ (i := 9) (N := some 46) #[true, true, true, true, true, true, true, true, true, true, false, false, false, false] rfl rfl (by kernel_rfl) (by decide) (fun K hK => ?_)
          refine Kd.R_append_step kL (w0 := w1) (W := w5) w1.heap.size (by rfl) (.tmp 42) (.tmp 45) 59 28 (.slice none 0 0) 24 (by rfl) Try.underlying59 info28 rfl (by decide) (by decide) (.slice Ao o.length ko) o recs [.slice Ac recs.length kc] (fun _ => True) (fun k => some k ≠ (Value.slice Ao o.length ko).ownBlock) (by rfl) (by rfl) ⟨_, rfl, Kd.R_lower HC.out EE.out.low.size⟩ (fun _ h => ⟨trivial, h⟩) (fun _ _ => trivial) (Kd.R_mono E5.out.out (fun _ _ => trivial)) E5.out.low E5.out.low.size (by have := SZ.out.1; omega) ?_
          intro v6 w6 hR6 hb6 hg6 hat6
          obtain ⟨A6, k6, rfl⟩ := Kd.R_slice hR6
          have hlen : (o ++ [recs]).length = o.length + 1 := by rw [List.length_append]; rfl
          simp only [hlen] at hR6 hat6 hg6 ⊢
          clear hlen
          have E6 := Lib.hid (show EBlk w6 g 117 (.slice Ao o.length ko) f1 f2 (.slice Ai inn.length ki) f4 f5 from blk_grown E5.out.blk hg6 (Kd.R_ne E5.out.out E5.out.blk (by decide)))
          have Z6 := Lib.hid (show EBlk w6 (w.heap.size + 1) 61 (.slice none 0 0) 0 0 (.slice none 0 0) false 0 from blk_grown Z5.out hg6 (Kd.R_ne E5.out.out Z5.out (by decide)))
          have I6 := Lib.hid (Kd.R_over E5.out.inn E5.out.out (by decide) hg6)
          have O6 := Lib.hid hR6
          have B6 := Lib.hid hb6
          clear hR6 hb6 hg6 hat6
          refine hK.out _ _ (E6.out.c0) (fun hHeld => ?_)
          clear hK K
          refine norm_ (a' := ?_) ?_ ?_
          rotate_left
          · show Act.put _ (some 46) _ = _
            simp only [Act.put, List.setIfInBounds_toArray, List.set_cons_zero, List.set_cons_succ, i64_w, i32_w]
            rfl
          refine pure_ (i := 10) (N := some 47) (v := ?_) (a' := ?_) #[true, true, true, true, true, true, true, true, true, true, true, false, false, false] rfl rfl (by kernel_rfl) (fun _ _ _ h => h) (Or.inl ⟨by rfl, ?_⟩) ?_ ?_
          rotate_left
          · intro w'
            go_simp
            with_reducible rfl
          rotate_left
          · simp only [Act.put, List.setIfInBounds_toArray, List.set_cons_zero, List.set_cons_succ, i64_w, i32_w]
            rfl
          refine pure_ (i := 11) (N := some 48) (v := ?_) (a' := ?_) #[true, true, true, true, true, true, true, true, true, true, true, true, false, false] rfl rfl (by kernel_rfl) (fun _ _ _ h => h) (Or.inl ⟨by rfl, ?_⟩) ?_ ?_
          rotate_left
          · intro w'
            go_simp
            with_reducible rfl
          rotate_left
          · simp only [Act.put, List.setIfInBounds_toArray, List.set_cons_zero, List.set_cons_succ, i64_w, i32_w]
            rfl
          refine pure_ (i := 12) (N := some 49) (v := ?_) (a' := ?_) #[true, true, true, true, true, true, true, true, true, true, true, true, true, false] rfl rfl (by kernel_rfl) (fun _ _ _ h => h) (Or.inl ⟨by rfl, ?_⟩) ?_ ?_
          rotate_left
          · intro w'
            go_simp
            with_reducible rfl
          rotate_left
          · simp only [Act.put, List.setIfInBounds_toArray, List.set_cons_zero, List.set_cons_succ, i64_w, i32_w]
            rfl
          refine last_ (i := 13) (N := none) #[true, true, true, true, true, true, true, true, true, true, true, true, true, true] rfl rfl (by kernel_rfl) (by decide) (fun K hK => ?_)
          have q1 := E6.out.c0; have q2 := blk_frozen E6.out 0
          refine skip_ (w1 := ?_) (by rfl) rfl ?_ ?_
          rotate_left
          · go_simp
            rfl
          refine hK.out _ _ ?_
          clear hK K
          refine done_ (by kernel_rfl) ?_

          have E7 := Lib.hid (show EBlk (w6.setCell ⟨g, 0, none⟩ (.slice A6 (o.length + 1) k6)) g 117 (.slice A6 (o.length + 1) k6) f1 f2 (.slice Ai inn.length ki) f4 f5 from blk_put E6.out 0 _ rfl)
          have O7 := Lib.hid (Kd.R_set O6.out E6.out (by decide) 0 (.slice A6 (o.length + 1) k6))
          have I7 := Lib.hid (Kd.R_set I6.out E6.out (by decide) 0 (.slice A6 (o.length + 1) k6))
          have hgn : w.heap.size + 1 ≠ g := by have := EE.out.ge; have := N1.out; omega
          replace Z := Lib.hid (show EBlk (w6.setCell ⟨g, 0, none⟩ (.slice A6 (o.length + 1) k6)) (w.heap.size + 1) 61 (.slice none 0 0) 0 0 (.slice none 0 0) false 0 from blk_far Z6.out hgn (.slice A6 (o.length + 1) k6))
          have B7 := Lib.hid (below_set B6.out (Nat.le_refl _) EE.out.ge 0 (.slice A6 (o.length + 1) k6))
          have B0 := Lib.hid (bb BW.out B7.out)
          clear E6 O6 I6 Z6 B6 hgn
          generalize w6.setCell ⟨g, 0, none⟩ (.slice A6 (o.length + 1) k6) = w7 at E7 O7 I7 Z B7 B0 ⊢
          have x0 := E7.out.c0; have x1 := E7.out.c1; have x2 := E7.out.c2; have x3 := E7.out.c3; have x4 := E7.out.c4; have x5 := E7.out.c5
          have z0 := Z.out.c0; have z1 := Z.out.c1; have z2 := Z.out.c2; have z3 := Z.out.c3; have z4 := Z.out.c4; have z5 := Z.out.c5
          have y := blk_frozen Z.out
          go_wp2_with fail
          obtain ⟨w9, hw9, Z9, F9⟩ := six Z.out (.slice A6 (o.length + 1) k6) (f1) (f2) (.slice Ai inn.length ki) (f4) (f5)
          rw [← hw9]
          clear hw9
          obtain rfl : r = 0 := by rw [PR.out]; unfold offF; simp only; rw [if_neg (by rw [HZ.out]; simp), if_neg H1.out, if_neg (by rw [HS.out]; have := H6.out; simp; omega)]
          obtain rfl : x = ⟨o ++ [recs], f1, f2, inn, f4, f5⟩ := by rw [PX.out]; unfold offF; simp only; rw [if_neg (by rw [HZ.out]; simp), if_neg H1.out, if_neg (by rw [HS.out]; have := H6.out; simp; omega)]
          refine bodyPost_ret (v := .tuple #[.agg #[.slice A6 (o.length + 1) k6, .int .i64 (f1), .int .i64 (f2), .slice Ai inn.length ki, .bool f4, .int .i64 (f5)], .int .i64 (0)]) (by simp [results, Try.results35, go_sem, Z9.c0, Z9.c1, Z9.c2, Z9.c3, Z9.c4, Z9.c5]) rfl ⟨_, rfl, ⟨_, _, rfl, V_fr (Kd.R_V (base' := w1.heap.size) (Kd.R_mono (Kd.R_bound O7.out) (fun _ hk => hk.2.1))) F9 (fun k hk => by have := N1.out; omega) BW.out.size, V_fr (Kd.R_V (base' := w1.heap.size) (Kd.R_mono (Kd.R_bound I7.out) (fun _ hk => hk.2.1))) F9 (fun k hk => by have := N1.out; omega) BW.out.size⟩, Fr.below F9 B0.out (Nat.le_refl _) (fun k hk => by omega)⟩
end Go.Proofs.Ytbfhohpbldadbaa.P

namespace Go.Proofs.Ytbfhohpbldadbaa.P
open Go Go.RowKit Go.Proofs.YtbfhohpbldadbaaW.PrintWords Go.Proofs.YtbfhohpbldadbaaW.PrintLast Go.Proofs.YtbfhohpbldadbaaW.PrintMore
set_option linter.unusedVariables false
set_option linter.unusedSimpArgs false
theorem info83 : (Try.prog.info? 83).map (fun i => (i.zero, i.size, i.bytes)) = some (some (.agg #[.int .i64 0, .bool false, .slice none 0 0]), 3, 40) := by kernel_rfl
def sendB (o : List (List S39)) (f5 now : Int) : Bool := decide (0 < o.length) && (decide (f5 = -1) || decide (f5 ≤ now))
def pollL (o : List (List S39)) (f1 f2 : Int) (f4 : Bool) (f5 now : Int) : List S83 :=
  (if sendB o f5 now = true then [⟨f1, false, o.headD []⟩] else []) ++ (if f4 = true then [⟨f2, true, []⟩] else [])
def pollF (c : S61) (now : Int) : S61 × List S83 × Int :=
  if clCheck c.f0 c.f1 c.f2 c.f5 ≠ 0 then (z61, [], clCheck c.f0 c.f1 c.f2 c.f5) else if oddT now = true then (z61, [], 1) else (⟨c.f0, c.f1, c.f2, c.f3, false, if sendB c.f0 c.f5 now = true then now + 3 else c.f5⟩, pollL c.f0 c.f1 c.f2 c.f4 c.f5 now, 0)
def Poll3 (x : S61) (l : List S83) (r : Int) (w : World) (e : Ending) (w' : World) : Prop := ∃ v vl, e = .returned (.tuple #[v, vl, .int .i64 r]) ∧ EndV w' w.heap.size v x ∧ Kd.R k83 83 w' w.heap.size (fun _ => True) vl l ∧ Below w.heap.size w w'
theorem R_fr {α : Type} {d : Kd α} {e B B' : Nat} {ok : Nat → Prop} {W W' : World} {v : Value} {xs : List α} {bad : Nat → Prop} (h : Kd.R d e W B ok v xs) (hf : Fr bad W W') (hb : ∀ k, bad k → k < B) (hB : B' ≤ B) : Kd.R d e W' B' ok v xs :=
  Kd.R_lower (Kd.R_mono (Kd.R_step (Kd.R_bound h) (fun k hk hlt => hf.same k hlt (fun hx => by have := hb k hx; have := hk.2.1; omega))) (fun _ hk => hk.1)) hB
theorem EdW.grown {w W W' : World} {g : Nat} {vo vi v : Value} {o : List (List S39)} {inn : List S39} {f1 f2 f5 : Int} {f4 : Bool} (h : EdW w W g vo o f1 f2 vi inn f4 f5) (hg : W.grownBy W' v.ownBlock) (hty : ∀ k, v.ownBlock = some k → ∃ cells, W.heap[k]? = some (.cells cells 83 (0, 0))) (hb : Below w.heap.size w W') : EdW w W' g vo o f1 f2 vi inn f4 f5 :=
  ⟨hb, h.ge, blk_grown h.blk hg (fun e => by obtain ⟨c, hc⟩ := hty g e.symm; exact absurd rfl (blk_ne hc h.blk (by decide))), Kd.R_over' h.out hty (by decide) hg, Kd.R_over' h.inn hty (by decide) hg⟩
theorem sized_le {o : List (List S39)} {f1 f2 f5 : Int} (h : clCheck o f1 f2 f5 = 0) : (o.headD []).length ≤ 1024 := by
  cases o with
  | nil => exact Nat.zero_le _
  | cons a o => exact ((check_sized h).2.1 a (by simp)).2
theorem cell_keep {W W' : World} {a : Addr} {v : Value} (h : W.cell? a = some v) (hb : Below W.heap.size W W') : W'.cell? a = some v := (hb.cell (World.block_lt_of_cell? W a h)).trans h
set_option maxHeartbeats 16000000 in
set_option maxRecDepth 100000 in
theorem poll_calls (A0 : Option Addr) (c0 : Nat) (A3 : Option Addr) (c3 : Nat) (c : S61) (now : Int) (w : World) (hr : Kd.C kL w A0 c.f0.length c.f0) (hr3 : Kd.C k39 w A3 c.f3.length c.f3) (hl : c.f3.length ≤ 1000000) :
    Calls Try.prog 44 #[vE A0 c0 A3 c3 c, .int .i64 now] w (Poll3 (pollF c now).1 (pollF c now).2.1 (pollF c now).2.2 w) := by
  obtain ⟨o, f1, f2, inn, f4, f5⟩ := c
  simp only at hr hr3 hl
  unfold vE
  simp only
  obtain ⟨x, hx⟩ : ∃ x, x = (pollF ⟨o, f1, f2, inn, f4, f5⟩ now).1 := ⟨_, rfl⟩
  obtain ⟨l, hl'⟩ : ∃ l, l = (pollF ⟨o, f1, f2, inn, f4, f5⟩ now).2.1 := ⟨_, rfl⟩
  obtain ⟨r, hr'⟩ : ∃ r, r = (pollF ⟨o, f1, f2, inn, f4, f5⟩ now).2.2 := ⟨_, rfl⟩
  rw [← hx, ← hl', ← hr']
  have PX := Lib.hid hx; have PL := Lib.hid hl'; have PR := Lib.hid hr'
  have HR := Lib.hid hr; have HR3 := Lib.hid hr3; have HL := Lib.hid hl
  clear hr hr3 hl hx hl' hr'
  go_enter Try.func44, Try.ntmps44
  go_wp2_with fail
  obtain ⟨w1, hw1⟩ : ∃ w1, w1 = (w.alloc (.cells #[.slice A0 o.length c0, .int .i64 f1, .int .i64 f2, .slice A3 inn.length c3, .bool f4, .int .i64 f5] 61)).alloc (.cells #[.slice none 0 0, .int .i64 0, .int .i64 0, .slice none 0 0, .bool false, .int .i64 0] 61) := ⟨_, rfl⟩
  rw [← hw1]
  have Z := Lib.hid (show EBlk w1 (w.heap.size + 1) 61 (.slice none 0 0) 0 0 (.slice none 0 0) false 0 by rw [hw1]; have h := EBlk.new (w.alloc (.cells #[.slice A0 o.length c0, .int .i64 f1, .int .i64 f2, .slice A3 inn.length c3, .bool f4, .int .i64 f5] 61)) 61 (.slice none 0 0) (.slice none 0 0) 0 0 0 false; rwa [World.size_alloc] at h)
  have B0 := Lib.hid (show Below w.heap.size w w1 by rw [hw1]; exact al (below_one _ _) _)
  have BW := Lib.hid B0.out
  have N1 := Lib.hid (show w1.heap.size = w.heap.size + 2 by rw [hw1]; simp)
  clear hw1
  refine (edit_calls A0 c0 o f1 f2 A3 c3 inn f4 f5 w1 (Kd.C_below HR.out B0.out) (Kd.C_below HR3.out B0.out) HL.out).mono ?_
  rintro e w2 (⟨hne, rfl, hb⟩ | ⟨h0, g, vo, vi, rfl, hE⟩)
  · replace Z := Lib.hid (Z.out.below hb)
    replace B0 := Lib.hid (bb B0.out hb)
    clear hb
    have hz : (clCheck o f1 f2 f5 != 0) = true := by simpa using hne
    obtain ⟨err, herr⟩ : ∃ err, err = clCheck o f1 f2 f5 := ⟨_, rfl⟩
    rw [← herr] at hz hne ⊢
    have HE := Lib.hid herr; have HNE := Lib.hid hne
    clear herr hne
    have z0 := Z.out.c0; have z1 := Z.out.c1; have z2 := Z.out.c2; have z3 := Z.out.c3; have z4 := Z.out.c4; have z5 := Z.out.c5
    have y := blk_frozen Z.out
    go_wp2_with fail
    obtain ⟨w9, hw9, Z9, F9⟩ := six Z.out (.slice none 0 0) (0) (0) (.slice none 0 0) (false) (0)
    rw [← hw9]
    clear hw9
    obtain rfl : err = r := by rw [PR.out]; unfold pollF; simp only; rw [if_pos (by rw [← HE.out]; exact HNE.out)]; exact HE.out
    obtain rfl : x = z61 := by rw [PX.out]; unfold pollF; simp only; rw [if_pos (by rw [← HE.out]; exact HNE.out)]
    obtain rfl : l = [] := by rw [PL.out]; unfold pollF; simp only; rw [if_pos (by rw [← HE.out]; exact HNE.out)]
    refine bodyPost_ret (v := .tuple #[.agg #[.slice none 0 0, .int .i64 (0), .int .i64 (0), .slice none 0 0, .bool false, .int .i64 (0)], .slice none 0 0, .int .i64 (err)]) (by simp [results, Try.results44, go_sem, Z9.c0, Z9.c1, Z9.c2, Z9.c3, Z9.c4, Z9.c5]) rfl ⟨_, _, rfl, EndV.zero _ _, Kd.R_nil _ _ _ _ _, Fr.below F9 B0.out (Nat.le_refl _) (fun k hk => by omega)⟩
  · have HZ := Lib.hid h0
    have EE := Lib.hid hE
    replace Z := Lib.hid (Z.out.below hE.low)
    replace B0 := Lib.hid (bb B0.out hE.low)
    clear h0 hE
    obtain ⟨Ai, ki, rfl⟩ := Kd.R_slice EE.out.inn
    go_wp2_with fail
    refine (in74_calls now w2).mono ?_
    rintro e w3 ⟨rfl, hb⟩
    replace EE := Lib.hid (EE.out.below hb)
    replace Z := Lib.hid (Z.out.below hb)
    replace B0 := Lib.hid (bb B0.out hb)
    clear hb
    have z0 := Z.out.c0; have z1 := Z.out.c1; have z2 := Z.out.c2; have z3 := Z.out.c3; have z4 := Z.out.c4; have z5 := Z.out.c5
    have y := blk_frozen Z.out
    cases ht : oddT now
    · have HT := Lib.hid ht
      clear ht
      obtain ⟨Ao, ko, rfl⟩ := Kd.R_slice EE.out.out
      have x0 := EE.out.blk.c0
      have x5 := EE.out.blk.c5
      have x4 := EE.out.blk.c4
      by_cases ha : 0 < o.length
      · have HA := Lib.hid ha
        by_cases hb : f5 = -1
        · have HSB := Lib.hid (show sendB o f5 now = true by unfold sendB; rw [decide_eq_true ha, decide_eq_true hb]; rfl)
          subst hb
          have SZL := Lib.hid (sized_le HZ.out)
          obtain ⟨go, ko2, hgo, _, _, _⟩ := Kd.R_form EE.out.out HA.out
          obtain ⟨ad, Ah, kh, hA, hat⟩ := L_cell (Kd.R_reads' EE.out.out).2.2 0 HA.out HA.out
          obtain ⟨hd, hhd⟩ : ∃ hd, hd = o.headD [] := ⟨_, rfl⟩
          have hd0 : o[0]'HA.out = hd := by rw [hhd]; cases o with | nil => exact absurd HA.out (Nat.lt_irrefl _) | cons a o => rfl
          have HHD := Lib.hid hhd
          injection hgo with hg1 _ hg3
          subst hg1; subst hg3
          injection hA with hA
          subst hA
          have hat2 : AtL w3 ((⟨go, 0, none⟩ : Addr).add 0) Ah kh hd := by rw [← hd0]; exact hat
          have q00 : w3.cell? ⟨go, 0, none⟩ = some (.slice Ah hd.length kh) := by have h := hat2.c0; simpa [Addr.add] using h
          have HHL := Lib.hid (show hd.length ≤ 1024 by rw [hhd]; exact SZL.out)
          have QA := Lib.hid (show w3.drew.cell? ⟨go, 0, none⟩ = some (.slice Ah hd.length kh) from cell_keep q00 (below_drew (Below.refl _ _)))
          have CH := Lib.hid (show Kd.C k39 w3.drew Ah hd.length hd from Kd.C_drew hat2.cc)
          clear hat hat2 hd0 hhd q00 z0 z1 z2 z3 z4 z5 y
          go_wp2_with fail
          replace EE := Lib.hid (show EdW w1 w3.drew g (.slice (some ⟨go, 0, none⟩) o.length ko) o f1 f2 (.slice Ai inn.length ki) inn f4 (-1) from EE.out.below (below_drew (Below.refl _ _)))
          replace Z := Lib.hid (show EBlk w3.drew (w.heap.size + 1) 61 (.slice none 0 0) 0 0 (.slice none 0 0) false 0 from Z.out.below (below_drew (Below.refl _ _)))
          clear x0 x4 x5
          refine start_ (n := 18) (S := fun w' => w'.cell? ⟨g, 1, none⟩ = some (.int .i64 f1) ∧ w'.cell? ⟨g, 0, none⟩ = some (.slice (some ⟨go, 0, none⟩) o.length ko) ∧ w'.cell? ⟨go, 0, none⟩ = some (.slice Ah hd.length kh)) (ds := []) #[false, false, false, false, false, false, false, false, false, false, false, false, false, false, false, false, false, false] (by kernel_rfl) rfl rfl ⟨EE.out.blk.c1, EE.out.blk.c0, QA.out⟩ (fun hHeld => ?_)
          generalize w3.drew = w4 at EE Z QA CH hHeld ⊢
          refine pure_ (i := 0) (N := some 47) (v := ?_) (a' := ?_) #[true, false, false, false, false, false, false, false, false, false, false, false, false, false, false, false, false, false] rfl rfl (by kernel_rfl) (fun _ _ _ h => h) (Or.inl ⟨by rfl, ?_⟩) ?_ ?_
          rotate_left
          · intro w'
            go_simp
            with_reducible rfl
          rotate_left
          · simp only [Act.put, List.setIfInBounds_toArray, List.set_cons_zero, List.set_cons_succ, i64_w, i32_w]
            rfl
          refine pure_ (i := 1) (N := some 48) (v := ?_) (a' := ?_) #[true, true, false, false, false, false, false, false, false, false, false, false, false, false, false, false, false, false] rfl rfl (by kernel_rfl) (fun _ _ _ h => h) (Or.inl ⟨by rfl, ?_⟩) ?_ ?_
          rotate_left
          · intro w'
            go_simp
            with_reducible rfl
          rotate_left
          · simp only [Act.put, List.setIfInBounds_toArray, List.set_cons_zero, List.set_cons_succ, i64_w, i32_w]
            rfl
          refine pure_ (i := 2) (N := some 49) (v := ?_) (a' := ?_) #[true, true, true, false, false, false, false, false, false, false, false, false, false, false, false, false, false, false] rfl rfl (by kernel_rfl) (fun _ _ _ h => h) (Or.inl ⟨by rfl, ?_⟩) ?_ ?_
          rotate_left
          · intro w'
            go_simp
            with_reducible rfl
          rotate_left
          · simp only [Act.put, List.setIfInBounds_toArray, List.set_cons_zero, List.set_cons_succ, i64_w, i32_w]
            rfl
          refine pure_ (i := 3) (N := some 50) (v := ?_) (a' := ?_) #[true, true, true, true, false, false, false, false, false, false, false, false, false, false, false, false, false, false] rfl rfl (by kernel_rfl) (fun _ _ _ h => h) (Or.inl ⟨by rfl, ?_⟩) ?_ ?_
          rotate_left
          · intro w'
            go_simp
            with_reducible rfl
          rotate_left
          · simp only [Act.put, List.setIfInBounds_toArray, List.set_cons_zero, List.set_cons_succ, i64_w, i32_w]
            rfl
          refine pure_ (i := 4) (N := some 51) (v := ?_) (a' := ?_) #[true, true, true, true, true, false, false, false, false, false, false, false, false, false, false, false, false, false] rfl rfl (by kernel_rfl) (fun _ _ _ h => h) (Or.inl ⟨by rfl, ?_⟩) ?_ ?_
          rotate_left
          · intro w'
            go_simp
            with_reducible rfl
          rotate_left
          · simp only [Act.put, List.setIfInBounds_toArray, List.set_cons_zero, List.set_cons_succ, i64_w, i32_w]
            rfl
          refine pure_ (i := 6) (N := some 53) (v := ?_) (a' := ?_) #[true, true, true, true, true, false, true, false, false, false, false, false, false, false, false, false, false, false] rfl rfl (by kernel_rfl) (fun _ _ _ h => h) (Or.inl ⟨by rfl, ?_⟩) ?_ ?_
          rotate_left
          · intro w'
            go_simp
            with_reducible rfl
          rotate_left
          · simp only [Act.put, List.setIfInBounds_toArray, List.set_cons_zero, List.set_cons_succ, i64_w, i32_w]
            rfl
          refine pure_ (i := 7) (N := some 54) (v := ?_) (a' := ?_) #[true, true, true, true, true, false, true, true, false, false, false, false, false, false, false, false, false, false] rfl rfl (by kernel_rfl) (fun _ _ _ h => h) (Or.inl ⟨by rfl, ?_⟩) ?_ ?_
          rotate_left
          · intro w'
            go_simp
            with_reducible rfl
          rotate_left
          · simp only [Act.put, List.setIfInBounds_toArray, List.set_cons_zero, List.set_cons_succ, i64_w, i32_w]
            rfl
          refine pure_ (i := 8) (N := some 55) (v := ?_) (a' := ?_) #[true, true, true, true, true, false, true, true, true, false, false, false, false, false, false, false, false, false] rfl rfl (by kernel_rfl) (fun _ _ _ h => h) (Or.inl ⟨by rfl, ?_⟩) ?_ ?_
          rotate_left
          · intro w'
            go_simp
            with_reducible rfl
          rotate_left
          · simp only [Act.put, List.setIfInBounds_toArray, List.set_cons_zero, List.set_cons_succ, i64_w, i32_w]
            rfl
          refine pure_ (i := 9) (N := some 56) (v := ?_) (a' := ?_) #[true, true, true, true, true, false, true, true, true, true, false, false, false, false, false, false, false, false] rfl rfl (by kernel_rfl) (fun _ _ _ h => h) (Or.inl ⟨by rfl, ?_⟩) ?_ ?_
          rotate_left
          · intro w'
            go_simp
            with_reducible rfl
          rotate_left
          · simp only [Act.put, List.setIfInBounds_toArray, List.set_cons_zero, List.set_cons_succ, i64_w, i32_w]
            rfl
          refine take_ (i := 5) (N := some 52) (v := ?_) (a' := ?_) #[true, true, true, true, true, true, true, true, true, true, false, false, false, false, false, false, false, false] rfl rfl (by kernel_rfl) (fun _ _ _ h => h) (Or.inl ⟨by rfl, ?_⟩) hHeld ?_ ?_
          rotate_left
          · rintro w' ⟨s0, s1, s2⟩
            go_simp
            with_reducible rfl
          rotate_left
          · simp only [Act.put, List.setIfInBounds_toArray, List.set_cons_zero, List.set_cons_succ, i64_w, i32_w]
            rfl
          refine take_ (i := 10) (N := some 57) (v := ?_) (a' := ?_) #[true, true, true, true, true, true, true, true, true, true, true, false, false, false, false, false, false, false] rfl rfl (by kernel_rfl) (fun _ _ _ h => h) (Or.inl ⟨by rfl, ?_⟩) hHeld ?_ ?_
          rotate_left
          · rintro w' ⟨s0, s1, s2⟩
            go_simp
            with_reducible rfl
          rotate_left
          · simp only [Act.put, List.setIfInBounds_toArray, List.set_cons_zero, List.set_cons_succ, i64_w, i32_w]
            rfl
          refine pure_ (i := 11) (N := some 58) (v := ?_) (a' := ?_) #[true, true, true, true, true, true, true, true, true, true, true, true, false, false, false, false, false, false] rfl rfl (by kernel_rfl) (fun _ _ _ h => h) (Or.inl ⟨by rfl, ?_⟩) ?_ ?_
          rotate_left
          · intro w'
            go_simp
            with_reducible rfl
          rotate_left
          · simp only [Act.put, List.setIfInBounds_toArray, List.set_cons_zero, List.set_cons_succ, i64_w, i32_w]
            rfl
          refine take_ (i := 12) (N := some 59) (v := ?_) (a' := ?_) #[true, true, true, true, true, true, true, true, true, true, true, true, true, false, false, false, false, false] rfl rfl (by kernel_rfl) (fun _ _ _ h => h) (Or.inl ⟨by rfl, ?_⟩) hHeld ?_ ?_
          rotate_left
          · rintro w' ⟨s0, s1, s2⟩
            go_simp
            with_reducible rfl
          rotate_left
          · simp only [Act.put, List.setIfInBounds_toArray, List.set_cons_zero, List.set_cons_succ, i64_w, i32_w]
            rfl
          refine one_ (i := 13) (N := some 60) #[true, true, true, true, true, true, true, true, true, true, true, true, true, true, false, false, false, false] rfl rfl (by kernel_rfl) (by decide) (fun K hK => ?_)
          refine goes_ Try.func72 (by kernel_rfl) rfl #[.slice Ah hd.length kh] (by rfl) rfl rfl (by simp only [List.map_toArray, List.map_cons, List.map_nil]; rfl) ?_
          with_reducible refine (cloneR Ah kh hd w4 CH.out (by have := HHL.out; omega)).mono ?_
          rintro e w5 ⟨v5, rfl, ho, hb⟩
          refine ⟨_, rfl, ?_⟩
          obtain ⟨Ac, kc, rfl⟩ := Kd.R_slice ho
          have E5 := Lib.hid (EE.out.below hb)
          have Z5 := Lib.hid (Z.out.below hb)
          have Q5 := Lib.hid (cell_keep QA.out hb)
          have HC := Lib.hid (Kd.R_lower ho EE.out.low.size)
          clear ho hb
          refine hK.out _ _ ⟨E5.out.blk.c1, E5.out.blk.c0, Q5.out⟩ (fun hHeld => ?_)
          clear hK K
          refine norm_ (a' := ?_) ?_ ?_
          rotate_left
          · show Act.put _ (some 60) _ = _
            simp only [Act.put, List.setIfInBounds_toArray, List.set_cons_zero, List.set_cons_succ, i64_w, i32_w]
            rfl
          refine pure_ (i := 14) (N := some 61) (v := ?_) (a' := ?_) #[true, true, true, true, true, true, true, true, true, true, true, true, true, true, true, false, false, false] rfl rfl (by kernel_rfl) (fun _ _ _ h => h) (Or.inl ⟨by rfl, ?_⟩) ?_ ?_
          rotate_left
          · intro w'
            go_simp
            with_reducible rfl
          rotate_left
          · simp only [Act.put, List.setIfInBounds_toArray, List.set_cons_zero, List.set_cons_succ, i64_w, i32_w]
            rfl
          refine one_ (i := 15) (N := some 62) #[true, true, true, true, true, true, true, true, true, true, true, true, true, true, true, true, false, false] rfl rfl (by kernel_rfl) (by decide) (fun K hK => ?_)
          refine value_ (w1 := ?_) (v := ?_) (by rfl) rfl ?_ ?_
          rotate_left 2
          · go_simp
            constructor
            · rfl
            · rfl
          refine hK.out _ _ ⟨(E5.out.blk.below (below_one _ _)).c1, (E5.out.blk.below (below_one _ _)).c0, cell_keep Q5.out (below_one _ _)⟩ (fun hHeld => ?_)
          clear hK K
          refine norm_ (a' := ?_) ?_ ?_
          rotate_left
          · show Act.put _ (some 62) _ = _
            simp only [Act.put, List.setIfInBounds_toArray, List.set_cons_zero, List.set_cons_succ, i64_w, i32_w]
            rfl
          refine one_ (i := 16) (N := some 63) #[true, true, true, true, true, true, true, true, true, true, true, true, true, true, true, true, true, false] rfl rfl (by kernel_rfl) (by decide) (fun K hK => ?_)
          refine Kd.R_append_step k83 (w0 := w1) (W := w5) w1.heap.size (by rfl) (.tmp 47) (.tmp 62) 65 83 (.agg #[.int .i64 0, .bool false, .slice none 0 0]) 40 (by rfl) Try.underlying65 info83 rfl (by decide) (by decide) (.slice none 0 0) [] ⟨f1, false, hd⟩ [.int .i64 f1, .bool false, .slice Ac hd.length kc] (fun _ => True) (fun _ => True) (by rfl) (by rfl) (k83_mkM _ _ _ ⟨f1, false, hd⟩ HC.out) (fun k _ => ⟨trivial, by simp [Value.ownBlock]⟩) (fun _ _ => trivial) (Kd.R_nil _ _ _ _ _) E5.out.low E5.out.low.size (by simp) ?_
          intro v6 w6 hR6 hb6 hg6 hat6
          simp only [List.nil_append] at hR6
          have E6 := Lib.hid (EdW.grown E5.out hg6 (fun k hk => by simp [Value.ownBlock] at hk) hb6)
          have Z6 := Lib.hid (show EBlk w6 (w.heap.size + 1) 61 (.slice none 0 0) 0 0 (.slice none 0 0) false 0 from blk_grown Z5.out hg6 (by simp [Value.ownBlock]))
          have L6 := Lib.hid hR6
          have Q6 := Lib.hid (cell_grown hg6 Q5.out (by simp [Value.ownBlock]))
          clear hR6 hb6 hg6 hat6
          refine hK.out _ _ ⟨E6.out.blk.c1, E6.out.blk.c0, Q6.out⟩ (fun hHeld => ?_)
          clear hK K
          refine norm_ (a' := ?_) ?_ ?_
          rotate_left
          · show Act.put _ (some 63) _ = _
            simp only [Act.put, List.setIfInBounds_toArray, List.set_cons_zero, List.set_cons_succ, i64_w, i32_w]
            rfl
          refine pure_ (i := 17) (N := some 9) (v := ?_) (a' := ?_) #[true, true, true, true, true, true, true, true, true, true, true, true, true, true, true, true, true, true] rfl rfl (by kernel_rfl) (fun _ _ _ h => h) (Or.inl ⟨by rfl, ?_⟩) ?_ ?_
          rotate_left
          · intro w'
            go_simp
            with_reducible rfl
          rotate_left
          · simp only [Act.put, List.setIfInBounds_toArray, List.set_cons_zero, List.set_cons_succ, i64_w, i32_w]
            rfl
          refine done_ (by kernel_rfl) ?_

          have x5 := E6.out.blk.c5; have z5 := blk_frozen E6.out.blk 5
          have E7 := Lib.hid (show EdW w1 (w6.setCell ⟨g, 5, none⟩ (.int .i64 (wrap64 (now + 3)))) g (.slice (some ⟨go, 0, none⟩) o.length ko) o f1 f2 (.slice Ai inn.length ki) inn f4 (wrap64 (now + 3)) from EdW.set E6.out 5 (.int .i64 (wrap64 (now + 3))) rfl)
          have Z7 := Lib.hid (show EBlk (w6.setCell ⟨g, 5, none⟩ (.int .i64 (wrap64 (now + 3)))) (w.heap.size + 1) 61 (.slice none 0 0) 0 0 (.slice none 0 0) false 0 from blk_far Z6.out (show w.heap.size + 1 ≠ g by have := E6.out.ge; have := N1.out; omega) _)
          have L7 := Lib.hid (Kd.R_set L6.out E6.out.blk (by decide) 5 (.int .i64 (wrap64 (now + 3))))
          have B7 := Lib.hid (bb BW.out E7.out.low)
          clear hHeld QA CH EE
          cases f4
          · have x0 := E7.out.blk.c0; have x1 := E7.out.blk.c1; have x2 := E7.out.blk.c2; have x3 := E7.out.blk.c3; have x4 := E7.out.blk.c4; have x5 := E7.out.blk.c5; have z0 := Z7.out.c0; have z1 := Z7.out.c1; have z2 := Z7.out.c2; have z3 := Z7.out.c3; have z4 := Z7.out.c4; have z5 := Z7.out.c5; have y := blk_frozen Z7.out
            go_wp2_with fail
            replace Z := Z7; replace B0 := B7
            obtain ⟨w9, hw9, Z9, F9⟩ := six Z.out (.slice (some ⟨go, 0, none⟩) o.length ko) (f1) (f2) (.slice Ai inn.length ki) (false) (wrap64 (now + 3))
            rw [← hw9]
            clear hw9
            obtain rfl : r = 0 := by rw [PR.out]; unfold pollF; simp only; rw [if_neg (by rw [HZ.out]; simp), if_neg (by rw [HT.out]; simp)]
            obtain rfl : x = ⟨o, f1, f2, inn, false, wrap64 (now + 3)⟩ := by rw [PX.out]; unfold pollF; simp only; rw [if_neg (by rw [HZ.out]; simp), if_neg (by rw [HT.out]; simp), if_pos HSB.out, wid (n := now + 3) (by have h := HT.out; unfold oddT at h; simp at h; omega) (by have h := HT.out; unfold oddT at h; simp at h; omega)]
            obtain rfl : l = [⟨f1, false, hd⟩] := by rw [PL.out]; unfold pollF; simp only; rw [if_neg (by rw [HZ.out]; simp), if_neg (by rw [HT.out]; simp)]; show pollL _ _ _ _ _ _ = _; unfold pollL; rw [if_pos HSB.out, ← HHD.out, if_neg (by simp)] <;> rfl
            refine bodyPost_ret (v := .tuple #[.agg #[.slice (some ⟨go, 0, none⟩) o.length ko, .int .i64 (f1), .int .i64 (f2), .slice Ai inn.length ki, .bool false, .int .i64 (wrap64 (now + 3))], v6, .int .i64 (0)]) (by simp [results, Try.results44, go_sem, Z9.c0, Z9.c1, Z9.c2, Z9.c3, Z9.c4, Z9.c5]) rfl ⟨_, _, rfl, ⟨_, _, rfl, V_fr (Kd.R_V (base' := w1.heap.size) (Kd.R_mono (Kd.R_bound E7.out.out) (fun _ hk => hk.2.1))) F9 (fun k hk => by have := N1.out; omega) BW.out.size, V_fr (Kd.R_V (base' := w1.heap.size) (Kd.R_mono (Kd.R_bound E7.out.inn) (fun _ hk => hk.2.1))) F9 (fun k hk => by have := N1.out; omega) BW.out.size⟩, R_fr L7.out F9 (fun k hk => by have := N1.out; omega) BW.out.size, Fr.below F9 B0.out (Nat.le_refl _) (fun k hk => by omega)⟩
          · have x0 := E7.out.blk.c0; have x2 := E7.out.blk.c2; have x4 := E7.out.blk.c4; have x5 := E7.out.blk.c5
            go_wp2_with ((with_reducible refine gate_builtin (b := .append) (xs := #[.tmp 75, .tmp 82]) rfl ?_); at_builtin; refine Kd.R_append k83 (w0 := w1) w1.heap.size rfl (.tmp 75) (.tmp 82) 65 83 (.agg #[.int .i64 0, .bool false, .slice none 0 0]) 40 rfl Try.underlying65 info83 rfl (by decide) (by decide) (v6) [⟨f1, false, hd⟩] ⟨f2, true, []⟩ [.int .i64 f2, .bool true, .slice none 0 0] (fun _ => True) (fun _ => False) rfl (by first | rfl | (simp [go_sem]; done)) (k83_mkM _ _ _ ⟨f2, true, []⟩ (Kd.R_nil _ _ _ _ _)) (fun _ h => h.elim) (fun _ _ => trivial) L7.out E7.out.low E7.out.low.size (by simp) ?_; intro v8 w8 hR8 hb8 hg8 hat8; have E8 := Lib.hid (EdW.grown E7.out hg8 (Kd.R_typed L7.out) hb8); have Z8 := Lib.hid (show EBlk w8 (w.heap.size + 1) 61 (.slice none 0 0) 0 0 (.slice none 0 0) false 0 from blk_grown Z7.out hg8 (Kd.R_ne L7.out Z7.out (by decide))); have L8 := Lib.hid hR8; clear hR8 hb8 hg8 hat8 x0 x2 x4 x5; have x4 := E8.out.blk.c4; have w4z := blk_frozen E8.out.blk 4; have E9 := Lib.hid (show EdW w1 (w8.setCell ⟨g, 4, none⟩ (.bool false)) g (.slice (some ⟨go, 0, none⟩) o.length ko) o f1 f2 (.slice Ai inn.length ki) inn false (wrap64 (now + 3)) from EdW.set E8.out 4 (.bool false) rfl); have Z9' := Lib.hid (show EBlk (w8.setCell ⟨g, 4, none⟩ (.bool false)) (w.heap.size + 1) 61 (.slice none 0 0) 0 0 (.slice none 0 0) false 0 from blk_far Z8.out (show w.heap.size + 1 ≠ g by have := E8.out.ge; have := N1.out; omega) (.bool false)); have q4 := E9.out.blk.c4; have x0 := E9.out.blk.c0; have x1 := E9.out.blk.c1; have x2 := E9.out.blk.c2; have x3 := E9.out.blk.c3; have x5 := E9.out.blk.c5; have z0 := Z9'.out.c0; have z1 := Z9'.out.c1; have z2 := Z9'.out.c2; have z3 := Z9'.out.c3; have z4 := Z9'.out.c4; have z5 := Z9'.out.c5; have y := blk_frozen Z9'.out)
            have L9 := Lib.hid (Kd.R_set L8.out E8.out.blk (by decide) 4 (.bool false))
            replace Z := Z9'; replace B0 := Lib.hid (bb BW.out E9.out.low)
            obtain ⟨w9, hw9, Z9, F9⟩ := six Z.out (.slice (some ⟨go, 0, none⟩) o.length ko) (f1) (f2) (.slice Ai inn.length ki) (false) (wrap64 (now + 3))
            rw [← hw9]
            clear hw9
            obtain rfl : r = 0 := by rw [PR.out]; unfold pollF; simp only; rw [if_neg (by rw [HZ.out]; simp), if_neg (by rw [HT.out]; simp)]
            obtain rfl : x = ⟨o, f1, f2, inn, false, wrap64 (now + 3)⟩ := by rw [PX.out]; unfold pollF; simp only; rw [if_neg (by rw [HZ.out]; simp), if_neg (by rw [HT.out]; simp), if_pos HSB.out, wid (n := now + 3) (by have h := HT.out; unfold oddT at h; simp at h; omega) (by have h := HT.out; unfold oddT at h; simp at h; omega)]
            obtain rfl : l = ([⟨f1, false, hd⟩] ++ [⟨f2, true, []⟩]) := by rw [PL.out]; unfold pollF; simp only; rw [if_neg (by rw [HZ.out]; simp), if_neg (by rw [HT.out]; simp)]; show pollL _ _ _ _ _ _ = _; unfold pollL; rw [if_pos HSB.out, ← HHD.out, if_pos rfl] <;> rfl
            refine bodyPost_ret (v := .tuple #[.agg #[.slice (some ⟨go, 0, none⟩) o.length ko, .int .i64 (f1), .int .i64 (f2), .slice Ai inn.length ki, .bool false, .int .i64 (wrap64 (now + 3))], v8, .int .i64 (0)]) (by simp [results, Try.results44, go_sem, Z9.c0, Z9.c1, Z9.c2, Z9.c3, Z9.c4, Z9.c5]) rfl ⟨_, _, rfl, ⟨_, _, rfl, V_fr (Kd.R_V (base' := w1.heap.size) (Kd.R_mono (Kd.R_bound E9.out.out) (fun _ hk => hk.2.1))) F9 (fun k hk => by have := N1.out; omega) BW.out.size, V_fr (Kd.R_V (base' := w1.heap.size) (Kd.R_mono (Kd.R_bound E9.out.inn) (fun _ hk => hk.2.1))) F9 (fun k hk => by have := N1.out; omega) BW.out.size⟩, R_fr L9.out F9 (fun k hk => by have := N1.out; omega) BW.out.size, Fr.below F9 B0.out (Nat.le_refl _) (fun k hk => by omega)⟩
        · have hb' : (f5 == -1) = false := by simpa using hb
          by_cases hc : f5 ≤ now
          · have HSB := Lib.hid (show sendB o f5 now = true by unfold sendB; rw [decide_eq_true ha, decide_eq_true hc]; simp)
            clear hb
            have SZL := Lib.hid (sized_le HZ.out)
            obtain ⟨go, ko2, hgo, _, _, _⟩ := Kd.R_form EE.out.out HA.out
            obtain ⟨ad, Ah, kh, hA, hat⟩ := L_cell (Kd.R_reads' EE.out.out).2.2 0 HA.out HA.out
            obtain ⟨hd, hhd⟩ : ∃ hd, hd = o.headD [] := ⟨_, rfl⟩
            have hd0 : o[0]'HA.out = hd := by rw [hhd]; cases o with | nil => exact absurd HA.out (Nat.lt_irrefl _) | cons a o => rfl
            have HHD := Lib.hid hhd
            injection hgo with hg1 _ hg3
            subst hg1; subst hg3
            injection hA with hA
            subst hA
            have hat2 : AtL w3 ((⟨go, 0, none⟩ : Addr).add 0) Ah kh hd := by rw [← hd0]; exact hat
            have q00 : w3.cell? ⟨go, 0, none⟩ = some (.slice Ah hd.length kh) := by have h := hat2.c0; simpa [Addr.add] using h
            have HHL := Lib.hid (show hd.length ≤ 1024 by rw [hhd]; exact SZL.out)
            have QA := Lib.hid (show w3.drew.cell? ⟨go, 0, none⟩ = some (.slice Ah hd.length kh) from cell_keep q00 (below_drew (Below.refl _ _)))
            have CH := Lib.hid (show Kd.C k39 w3.drew Ah hd.length hd from Kd.C_drew hat2.cc)
            clear hat hat2 hd0 hhd q00 z0 z1 z2 z3 z4 z5 y
            go_wp2_with fail
            replace EE := Lib.hid (show EdW w1 w3.drew g (.slice (some ⟨go, 0, none⟩) o.length ko) o f1 f2 (.slice Ai inn.length ki) inn f4 (f5) from EE.out.below (below_drew (Below.refl _ _)))
            replace Z := Lib.hid (show EBlk w3.drew (w.heap.size + 1) 61 (.slice none 0 0) 0 0 (.slice none 0 0) false 0 from Z.out.below (below_drew (Below.refl _ _)))
            clear x0 x4 x5
            refine start_ (n := 18) (S := fun w' => w'.cell? ⟨g, 1, none⟩ = some (.int .i64 f1) ∧ w'.cell? ⟨g, 0, none⟩ = some (.slice (some ⟨go, 0, none⟩) o.length ko) ∧ w'.cell? ⟨go, 0, none⟩ = some (.slice Ah hd.length kh)) (ds := []) #[false, false, false, false, false, false, false, false, false, false, false, false, false, false, false, false, false, false] (by kernel_rfl) rfl rfl ⟨EE.out.blk.c1, EE.out.blk.c0, QA.out⟩ (fun hHeld => ?_)
            generalize w3.drew = w4 at EE Z QA CH hHeld ⊢
            refine pure_ (i := 0) (N := some 47) (v := ?_) (a' := ?_) #[true, false, false, false, false, false, false, false, false, false, false, false, false, false, false, false, false, false] rfl rfl (by kernel_rfl) (fun _ _ _ h => h) (Or.inl ⟨by rfl, ?_⟩) ?_ ?_
            rotate_left
            · intro w'
              go_simp
              with_reducible rfl
            rotate_left
            · simp only [Act.put, List.setIfInBounds_toArray, List.set_cons_zero, List.set_cons_succ, i64_w, i32_w]
              rfl
            refine pure_ (i := 1) (N := some 48) (v := ?_) (a' := ?_) #[true, true, false, false, false, false, false, false, false, false, false, false, false, false, false, false, false, false] rfl rfl (by kernel_rfl) (fun _ _ _ h => h) (Or.inl ⟨by rfl, ?_⟩) ?_ ?_
            rotate_left
            · intro w'
              go_simp
              with_reducible rfl
            rotate_left
            · simp only [Act.put, List.setIfInBounds_toArray, List.set_cons_zero, List.set_cons_succ, i64_w, i32_w]
              rfl
            refine pure_ (i := 2) (N := some 49) (v := ?_) (a' := ?_) #[true, true, true, false, false, false, false, false, false, false, false, false, false, false, false, false, false, false] rfl rfl (by kernel_rfl) (fun _ _ _ h => h) (Or.inl ⟨by rfl, ?_⟩) ?_ ?_
            rotate_left
            · intro w'
              go_simp
              with_reducible rfl
            rotate_left
            · simp only [Act.put, List.setIfInBounds_toArray, List.set_cons_zero, List.set_cons_succ, i64_w, i32_w]
              rfl
            refine pure_ (i := 3) (N := some 50) (v := ?_) (a' := ?_) #[true, true, true, true, false, false, false, false, false, false, false, false, false, false, false, false, false, false] rfl rfl (by kernel_rfl) (fun _ _ _ h => h) (Or.inl ⟨by rfl, ?_⟩) ?_ ?_
            rotate_left
            · intro w'
              go_simp
              with_reducible rfl
            rotate_left
            · simp only [Act.put, List.setIfInBounds_toArray, List.set_cons_zero, List.set_cons_succ, i64_w, i32_w]
              rfl
            refine pure_ (i := 4) (N := some 51) (v := ?_) (a' := ?_) #[true, true, true, true, true, false, false, false, false, false, false, false, false, false, false, false, false, false] rfl rfl (by kernel_rfl) (fun _ _ _ h => h) (Or.inl ⟨by rfl, ?_⟩) ?_ ?_
            rotate_left
            · intro w'
              go_simp
              with_reducible rfl
            rotate_left
            · simp only [Act.put, List.setIfInBounds_toArray, List.set_cons_zero, List.set_cons_succ, i64_w, i32_w]
              rfl
            refine pure_ (i := 6) (N := some 53) (v := ?_) (a' := ?_) #[true, true, true, true, true, false, true, false, false, false, false, false, false, false, false, false, false, false] rfl rfl (by kernel_rfl) (fun _ _ _ h => h) (Or.inl ⟨by rfl, ?_⟩) ?_ ?_
            rotate_left
            · intro w'
              go_simp
              with_reducible rfl
            rotate_left
            · simp only [Act.put, List.setIfInBounds_toArray, List.set_cons_zero, List.set_cons_succ, i64_w, i32_w]
              rfl
            refine pure_ (i := 7) (N := some 54) (v := ?_) (a' := ?_) #[true, true, true, true, true, false, true, true, false, false, false, false, false, false, false, false, false, false] rfl rfl (by kernel_rfl) (fun _ _ _ h => h) (Or.inl ⟨by rfl, ?_⟩) ?_ ?_
            rotate_left
            · intro w'
              go_simp
              with_reducible rfl
            rotate_left
            · simp only [Act.put, List.setIfInBounds_toArray, List.set_cons_zero, List.set_cons_succ, i64_w, i32_w]
              rfl
            refine pure_ (i := 8) (N := some 55) (v := ?_) (a' := ?_) #[true, true, true, true, true, false, true, true, true, false, false, false, false, false, false, false, false, false] rfl rfl (by kernel_rfl) (fun _ _ _ h => h) (Or.inl ⟨by rfl, ?_⟩) ?_ ?_
            rotate_left
            · intro w'
              go_simp
              with_reducible rfl
            rotate_left
            · simp only [Act.put, List.setIfInBounds_toArray, List.set_cons_zero, List.set_cons_succ, i64_w, i32_w]
              rfl
            refine pure_ (i := 9) (N := some 56) (v := ?_) (a' := ?_) #[true, true, true, true, true, false, true, true, true, true, false, false, false, false, false, false, false, false] rfl rfl (by kernel_rfl) (fun _ _ _ h => h) (Or.inl ⟨by rfl, ?_⟩) ?_ ?_
            rotate_left
            · intro w'
              go_simp
              with_reducible rfl
            rotate_left
            · simp only [Act.put, List.setIfInBounds_toArray, List.set_cons_zero, List.set_cons_succ, i64_w, i32_w]
              rfl
            refine take_ (i := 5) (N := some 52) (v := ?_) (a' := ?_) #[true, true, true, true, true, true, true, true, true, true, false, false, false, false, false, false, false, false] rfl rfl (by kernel_rfl) (fun _ _ _ h => h) (Or.inl ⟨by rfl, ?_⟩) hHeld ?_ ?_
            rotate_left
            · rintro w' ⟨s0, s1, s2⟩
              go_simp
              with_reducible rfl
            rotate_left
            · simp only [Act.put, List.setIfInBounds_toArray, List.set_cons_zero, List.set_cons_succ, i64_w, i32_w]
              rfl
            refine take_ (i := 10) (N := some 57) (v := ?_) (a' := ?_) #[true, true, true, true, true, true, true, true, true, true, true, false, false, false, false, false, false, false] rfl rfl (by kernel_rfl) (fun _ _ _ h => h) (Or.inl ⟨by rfl, ?_⟩) hHeld ?_ ?_
            rotate_left
            · rintro w' ⟨s0, s1, s2⟩
              go_simp
              with_reducible rfl
            rotate_left
            · simp only [Act.put, List.setIfInBounds_toArray, List.set_cons_zero, List.set_cons_succ, i64_w, i32_w]
              rfl
            refine pure_ (i := 11) (N := some 58) (v := ?_) (a' := ?_) #[true, true, true, true, true, true, true, true, true, true, true, true, false, false, false, false, false, false] rfl rfl (by kernel_rfl) (fun _ _ _ h => h) (Or.inl ⟨by rfl, ?_⟩) ?_ ?_
            rotate_left
            · intro w'
              go_simp
              with_reducible rfl
            rotate_left
            · simp only [Act.put, List.setIfInBounds_toArray, List.set_cons_zero, List.set_cons_succ, i64_w, i32_w]
              rfl
            refine take_ (i := 12) (N := some 59) (v := ?_) (a' := ?_) #[true, true, true, true, true, true, true, true, true, true, true, true, true, false, false, false, false, false] rfl rfl (by kernel_rfl) (fun _ _ _ h => h) (Or.inl ⟨by rfl, ?_⟩) hHeld ?_ ?_
            rotate_left
            · rintro w' ⟨s0, s1, s2⟩
              go_simp
              with_reducible rfl
            rotate_left
            · simp only [Act.put, List.setIfInBounds_toArray, List.set_cons_zero, List.set_cons_succ, i64_w, i32_w]
              rfl
            refine one_ (i := 13) (N := some 60) #[true, true, true, true, true, true, true, true, true, true, true, true, true, true, false, false, false, false] rfl rfl (by kernel_rfl) (by decide) (fun K hK => ?_)
            refine goes_ Try.func72 (by kernel_rfl) rfl #[.slice Ah hd.length kh] (by rfl) rfl rfl (by simp only [List.map_toArray, List.map_cons, List.map_nil]; rfl) ?_
            with_reducible refine (cloneR Ah kh hd w4 CH.out (by have := HHL.out; omega)).mono ?_
            rintro e w5 ⟨v5, rfl, ho, hb⟩
            refine ⟨_, rfl, ?_⟩
            obtain ⟨Ac, kc, rfl⟩ := Kd.R_slice ho
            have E5 := Lib.hid (EE.out.below hb)
            have Z5 := Lib.hid (Z.out.below hb)
            have Q5 := Lib.hid (cell_keep QA.out hb)
            have HC := Lib.hid (Kd.R_lower ho EE.out.low.size)
            clear ho hb
            refine hK.out _ _ ⟨E5.out.blk.c1, E5.out.blk.c0, Q5.out⟩ (fun hHeld => ?_)
            clear hK K
            refine norm_ (a' := ?_) ?_ ?_
            rotate_left
            · show Act.put _ (some 60) _ = _
              simp only [Act.put, List.setIfInBounds_toArray, List.set_cons_zero, List.set_cons_succ, i64_w, i32_w]
              rfl
            refine pure_ (i := 14) (N := some 61) (v := ?_) (a' := ?_) #[true, true, true, true, true, true, true, true, true, true, true, true, true, true, true, false, false, false] rfl rfl (by kernel_rfl) (fun _ _ _ h => h) (Or.inl ⟨by rfl, ?_⟩) ?_ ?_
            rotate_left
            · intro w'
              go_simp
              with_reducible rfl
            rotate_left
            · simp only [Act.put, List.setIfInBounds_toArray, List.set_cons_zero, List.set_cons_succ, i64_w, i32_w]
              rfl
            refine one_ (i := 15) (N := some 62) #[true, true, true, true, true, true, true, true, true, true, true, true, true, true, true, true, false, false] rfl rfl (by kernel_rfl) (by decide) (fun K hK => ?_)
            refine value_ (w1 := ?_) (v := ?_) (by rfl) rfl ?_ ?_
            rotate_left 2
            · go_simp
              constructor
              · rfl
              · rfl
            refine hK.out _ _ ⟨(E5.out.blk.below (below_one _ _)).c1, (E5.out.blk.below (below_one _ _)).c0, cell_keep Q5.out (below_one _ _)⟩ (fun hHeld => ?_)
            clear hK K
            refine norm_ (a' := ?_) ?_ ?_
            rotate_left
            · show Act.put _ (some 62) _ = _
              simp only [Act.put, List.setIfInBounds_toArray, List.set_cons_zero, List.set_cons_succ, i64_w, i32_w]
              rfl
            refine one_ (i := 16) (N := some 63) #[true, true, true, true, true, true, true, true, true, true, true, true, true, true, true, true, true, false] rfl rfl (by kernel_rfl) (by decide) (fun K hK => ?_)
            refine Kd.R_append_step k83 (w0 := w1) (W := w5) w1.heap.size (by rfl) (.tmp 47) (.tmp 62) 65 83 (.agg #[.int .i64 0, .bool false, .slice none 0 0]) 40 (by rfl) Try.underlying65 info83 rfl (by decide) (by decide) (.slice none 0 0) [] ⟨f1, false, hd⟩ [.int .i64 f1, .bool false, .slice Ac hd.length kc] (fun _ => True) (fun _ => True) (by rfl) (by rfl) (k83_mkM _ _ _ ⟨f1, false, hd⟩ HC.out) (fun k _ => ⟨trivial, by simp [Value.ownBlock]⟩) (fun _ _ => trivial) (Kd.R_nil _ _ _ _ _) E5.out.low E5.out.low.size (by simp) ?_
            intro v6 w6 hR6 hb6 hg6 hat6
            simp only [List.nil_append] at hR6
            have E6 := Lib.hid (EdW.grown E5.out hg6 (fun k hk => by simp [Value.ownBlock] at hk) hb6)
            have Z6 := Lib.hid (show EBlk w6 (w.heap.size + 1) 61 (.slice none 0 0) 0 0 (.slice none 0 0) false 0 from blk_grown Z5.out hg6 (by simp [Value.ownBlock]))
            have L6 := Lib.hid hR6
            have Q6 := Lib.hid (cell_grown hg6 Q5.out (by simp [Value.ownBlock]))
            clear hR6 hb6 hg6 hat6
            refine hK.out _ _ ⟨E6.out.blk.c1, E6.out.blk.c0, Q6.out⟩ (fun hHeld => ?_)
            clear hK K
            refine norm_ (a' := ?_) ?_ ?_
            rotate_left
            · show Act.put _ (some 63) _ = _
              simp only [Act.put, List.setIfInBounds_toArray, List.set_cons_zero, List.set_cons_succ, i64_w, i32_w]
              rfl
            refine pure_ (i := 17) (N := some 9) (v := ?_) (a' := ?_) #[true, true, true, true, true, true, true, true, true, true, true, true, true, true, true, true, true, true] rfl rfl (by kernel_rfl) (fun _ _ _ h => h) (Or.inl ⟨by rfl, ?_⟩) ?_ ?_
            rotate_left
            · intro w'
              go_simp
              with_reducible rfl
            rotate_left
            · simp only [Act.put, List.setIfInBounds_toArray, List.set_cons_zero, List.set_cons_succ, i64_w, i32_w]
              rfl
            refine done_ (by kernel_rfl) ?_

            have x5 := E6.out.blk.c5; have z5 := blk_frozen E6.out.blk 5
            have E7 := Lib.hid (show EdW w1 (w6.setCell ⟨g, 5, none⟩ (.int .i64 (wrap64 (now + 3)))) g (.slice (some ⟨go, 0, none⟩) o.length ko) o f1 f2 (.slice Ai inn.length ki) inn f4 (wrap64 (now + 3)) from EdW.set E6.out 5 (.int .i64 (wrap64 (now + 3))) rfl)
            have Z7 := Lib.hid (show EBlk (w6.setCell ⟨g, 5, none⟩ (.int .i64 (wrap64 (now + 3)))) (w.heap.size + 1) 61 (.slice none 0 0) 0 0 (.slice none 0 0) false 0 from blk_far Z6.out (show w.heap.size + 1 ≠ g by have := E6.out.ge; have := N1.out; omega) _)
            have L7 := Lib.hid (Kd.R_set L6.out E6.out.blk (by decide) 5 (.int .i64 (wrap64 (now + 3))))
            have B7 := Lib.hid (bb BW.out E7.out.low)
            clear hHeld QA CH EE
            cases f4
            · have x0 := E7.out.blk.c0; have x1 := E7.out.blk.c1; have x2 := E7.out.blk.c2; have x3 := E7.out.blk.c3; have x4 := E7.out.blk.c4; have x5 := E7.out.blk.c5; have z0 := Z7.out.c0; have z1 := Z7.out.c1; have z2 := Z7.out.c2; have z3 := Z7.out.c3; have z4 := Z7.out.c4; have z5 := Z7.out.c5; have y := blk_frozen Z7.out
              go_wp2_with fail
              replace Z := Z7; replace B0 := B7
              obtain ⟨w9, hw9, Z9, F9⟩ := six Z.out (.slice (some ⟨go, 0, none⟩) o.length ko) (f1) (f2) (.slice Ai inn.length ki) (false) (wrap64 (now + 3))
              rw [← hw9]
              clear hw9
              obtain rfl : r = 0 := by rw [PR.out]; unfold pollF; simp only; rw [if_neg (by rw [HZ.out]; simp), if_neg (by rw [HT.out]; simp)]
              obtain rfl : x = ⟨o, f1, f2, inn, false, wrap64 (now + 3)⟩ := by rw [PX.out]; unfold pollF; simp only; rw [if_neg (by rw [HZ.out]; simp), if_neg (by rw [HT.out]; simp), if_pos HSB.out, wid (n := now + 3) (by have h := HT.out; unfold oddT at h; simp at h; omega) (by have h := HT.out; unfold oddT at h; simp at h; omega)]
              obtain rfl : l = [⟨f1, false, hd⟩] := by rw [PL.out]; unfold pollF; simp only; rw [if_neg (by rw [HZ.out]; simp), if_neg (by rw [HT.out]; simp)]; show pollL _ _ _ _ _ _ = _; unfold pollL; rw [if_pos HSB.out, ← HHD.out, if_neg (by simp)] <;> rfl
              refine bodyPost_ret (v := .tuple #[.agg #[.slice (some ⟨go, 0, none⟩) o.length ko, .int .i64 (f1), .int .i64 (f2), .slice Ai inn.length ki, .bool false, .int .i64 (wrap64 (now + 3))], v6, .int .i64 (0)]) (by simp [results, Try.results44, go_sem, Z9.c0, Z9.c1, Z9.c2, Z9.c3, Z9.c4, Z9.c5]) rfl ⟨_, _, rfl, ⟨_, _, rfl, V_fr (Kd.R_V (base' := w1.heap.size) (Kd.R_mono (Kd.R_bound E7.out.out) (fun _ hk => hk.2.1))) F9 (fun k hk => by have := N1.out; omega) BW.out.size, V_fr (Kd.R_V (base' := w1.heap.size) (Kd.R_mono (Kd.R_bound E7.out.inn) (fun _ hk => hk.2.1))) F9 (fun k hk => by have := N1.out; omega) BW.out.size⟩, R_fr L7.out F9 (fun k hk => by have := N1.out; omega) BW.out.size, Fr.below F9 B0.out (Nat.le_refl _) (fun k hk => by omega)⟩
            · have x0 := E7.out.blk.c0; have x2 := E7.out.blk.c2; have x4 := E7.out.blk.c4; have x5 := E7.out.blk.c5
              go_wp2_with ((with_reducible refine gate_builtin (b := .append) (xs := #[.tmp 75, .tmp 82]) rfl ?_); at_builtin; refine Kd.R_append k83 (w0 := w1) w1.heap.size rfl (.tmp 75) (.tmp 82) 65 83 (.agg #[.int .i64 0, .bool false, .slice none 0 0]) 40 rfl Try.underlying65 info83 rfl (by decide) (by decide) (v6) [⟨f1, false, hd⟩] ⟨f2, true, []⟩ [.int .i64 f2, .bool true, .slice none 0 0] (fun _ => True) (fun _ => False) rfl (by first | rfl | (simp [go_sem]; done)) (k83_mkM _ _ _ ⟨f2, true, []⟩ (Kd.R_nil _ _ _ _ _)) (fun _ h => h.elim) (fun _ _ => trivial) L7.out E7.out.low E7.out.low.size (by simp) ?_; intro v8 w8 hR8 hb8 hg8 hat8; have E8 := Lib.hid (EdW.grown E7.out hg8 (Kd.R_typed L7.out) hb8); have Z8 := Lib.hid (show EBlk w8 (w.heap.size + 1) 61 (.slice none 0 0) 0 0 (.slice none 0 0) false 0 from blk_grown Z7.out hg8 (Kd.R_ne L7.out Z7.out (by decide))); have L8 := Lib.hid hR8; clear hR8 hb8 hg8 hat8 x0 x2 x4 x5; have x4 := E8.out.blk.c4; have w4z := blk_frozen E8.out.blk 4; have E9 := Lib.hid (show EdW w1 (w8.setCell ⟨g, 4, none⟩ (.bool false)) g (.slice (some ⟨go, 0, none⟩) o.length ko) o f1 f2 (.slice Ai inn.length ki) inn false (wrap64 (now + 3)) from EdW.set E8.out 4 (.bool false) rfl); have Z9' := Lib.hid (show EBlk (w8.setCell ⟨g, 4, none⟩ (.bool false)) (w.heap.size + 1) 61 (.slice none 0 0) 0 0 (.slice none 0 0) false 0 from blk_far Z8.out (show w.heap.size + 1 ≠ g by have := E8.out.ge; have := N1.out; omega) (.bool false)); have q4 := E9.out.blk.c4; have x0 := E9.out.blk.c0; have x1 := E9.out.blk.c1; have x2 := E9.out.blk.c2; have x3 := E9.out.blk.c3; have x5 := E9.out.blk.c5; have z0 := Z9'.out.c0; have z1 := Z9'.out.c1; have z2 := Z9'.out.c2; have z3 := Z9'.out.c3; have z4 := Z9'.out.c4; have z5 := Z9'.out.c5; have y := blk_frozen Z9'.out)
              have L9 := Lib.hid (Kd.R_set L8.out E8.out.blk (by decide) 4 (.bool false))
              replace Z := Z9'; replace B0 := Lib.hid (bb BW.out E9.out.low)
              obtain ⟨w9, hw9, Z9, F9⟩ := six Z.out (.slice (some ⟨go, 0, none⟩) o.length ko) (f1) (f2) (.slice Ai inn.length ki) (false) (wrap64 (now + 3))
              rw [← hw9]
              clear hw9
              obtain rfl : r = 0 := by rw [PR.out]; unfold pollF; simp only; rw [if_neg (by rw [HZ.out]; simp), if_neg (by rw [HT.out]; simp)]
              obtain rfl : x = ⟨o, f1, f2, inn, false, wrap64 (now + 3)⟩ := by rw [PX.out]; unfold pollF; simp only; rw [if_neg (by rw [HZ.out]; simp), if_neg (by rw [HT.out]; simp), if_pos HSB.out, wid (n := now + 3) (by have h := HT.out; unfold oddT at h; simp at h; omega) (by have h := HT.out; unfold oddT at h; simp at h; omega)]
              obtain rfl : l = ([⟨f1, false, hd⟩] ++ [⟨f2, true, []⟩]) := by rw [PL.out]; unfold pollF; simp only; rw [if_neg (by rw [HZ.out]; simp), if_neg (by rw [HT.out]; simp)]; show pollL _ _ _ _ _ _ = _; unfold pollL; rw [if_pos HSB.out, ← HHD.out, if_pos rfl] <;> rfl
              refine bodyPost_ret (v := .tuple #[.agg #[.slice (some ⟨go, 0, none⟩) o.length ko, .int .i64 (f1), .int .i64 (f2), .slice Ai inn.length ki, .bool false, .int .i64 (wrap64 (now + 3))], v8, .int .i64 (0)]) (by simp [results, Try.results44, go_sem, Z9.c0, Z9.c1, Z9.c2, Z9.c3, Z9.c4, Z9.c5]) rfl ⟨_, _, rfl, ⟨_, _, rfl, V_fr (Kd.R_V (base' := w1.heap.size) (Kd.R_mono (Kd.R_bound E9.out.out) (fun _ hk => hk.2.1))) F9 (fun k hk => by have := N1.out; omega) BW.out.size, V_fr (Kd.R_V (base' := w1.heap.size) (Kd.R_mono (Kd.R_bound E9.out.inn) (fun _ hk => hk.2.1))) F9 (fun k hk => by have := N1.out; omega) BW.out.size⟩, R_fr L9.out F9 (fun k hk => by have := N1.out; omega) BW.out.size, Fr.below F9 B0.out (Nat.le_refl _) (fun k hk => by omega)⟩
          · have HSB := Lib.hid (show sendB o f5 now = false by unfold sendB; rw [decide_eq_false hb, decide_eq_false hc]; simp)
            clear hb
            have L0 := Lib.hid (Kd.R_nil k83 83 w3 w1.heap.size (fun _ => True))
            clear x0 x4 z0 z1 z2 z3 z4 z5 y
            cases f4
            · have x0 := EE.out.blk.c0; have x1 := EE.out.blk.c1; have x2 := EE.out.blk.c2; have x3 := EE.out.blk.c3; have x4 := EE.out.blk.c4; have x5 := EE.out.blk.c5; have z0 := Z.out.c0; have z1 := Z.out.c1; have z2 := Z.out.c2; have z3 := Z.out.c3; have z4 := Z.out.c4; have z5 := Z.out.c5; have y := blk_frozen Z.out
              go_wp2_with fail
              obtain ⟨w9, hw9, Z9, F9⟩ := six Z.out (.slice Ao o.length ko) (f1) (f2) (.slice Ai inn.length ki) (false) (f5)
              rw [← hw9]
              clear hw9
              obtain rfl : r = 0 := by rw [PR.out]; unfold pollF; simp only; rw [if_neg (by rw [HZ.out]; simp), if_neg (by rw [HT.out]; simp)]
              obtain rfl : x = ⟨o, f1, f2, inn, false, f5⟩ := by rw [PX.out]; unfold pollF; simp only; rw [if_neg (by rw [HZ.out]; simp), if_neg (by rw [HT.out]; simp), if_neg (by rw [HSB.out]; simp)]
              obtain rfl : l = [] := by rw [PL.out]; unfold pollF; simp only; rw [if_neg (by rw [HZ.out]; simp), if_neg (by rw [HT.out]; simp)]; show pollL _ _ _ _ _ _ = _; unfold pollL; rw [if_neg (by rw [HSB.out]; simp), if_neg (by simp)] <;> rfl
              refine bodyPost_ret (v := .tuple #[.agg #[.slice Ao o.length ko, .int .i64 (f1), .int .i64 (f2), .slice Ai inn.length ki, .bool false, .int .i64 (f5)], .slice none 0 0, .int .i64 (0)]) (by simp [results, Try.results44, go_sem, Z9.c0, Z9.c1, Z9.c2, Z9.c3, Z9.c4, Z9.c5]) rfl ⟨_, _, rfl, ⟨_, _, rfl, V_fr (Kd.R_V (base' := w1.heap.size) (Kd.R_mono (Kd.R_bound EE.out.out) (fun _ hk => hk.2.1))) F9 (fun k hk => by have := N1.out; omega) BW.out.size, V_fr (Kd.R_V (base' := w1.heap.size) (Kd.R_mono (Kd.R_bound EE.out.inn) (fun _ hk => hk.2.1))) F9 (fun k hk => by have := N1.out; omega) BW.out.size⟩, R_fr L0.out F9 (fun k hk => by have := N1.out; omega) BW.out.size, Fr.below F9 B0.out (Nat.le_refl _) (fun k hk => by omega)⟩
            · have x0 := EE.out.blk.c0; have x2 := EE.out.blk.c2; have x4 := EE.out.blk.c4; have x5 := EE.out.blk.c5
              go_wp2_with ((with_reducible refine gate_builtin (b := .append) (xs := #[.tmp 75, .tmp 82]) rfl ?_); at_builtin; refine Kd.R_append k83 (w0 := w1) w1.heap.size rfl (.tmp 75) (.tmp 82) 65 83 (.agg #[.int .i64 0, .bool false, .slice none 0 0]) 40 rfl Try.underlying65 info83 rfl (by decide) (by decide) (.slice none 0 0) [] ⟨f2, true, []⟩ [.int .i64 f2, .bool true, .slice none 0 0] (fun _ => True) (fun _ => False) rfl (by first | rfl | (simp [go_sem]; done)) (k83_mkM _ _ _ ⟨f2, true, []⟩ (Kd.R_nil _ _ _ _ _)) (fun _ h => h.elim) (fun _ _ => trivial) L0.out EE.out.low EE.out.low.size (by simp) ?_; intro v8 w8 hR8 hb8 hg8 hat8; have E8 := Lib.hid (EdW.grown EE.out hg8 (Kd.R_typed L0.out) hb8); have Z8 := Lib.hid (show EBlk w8 (w.heap.size + 1) 61 (.slice none 0 0) 0 0 (.slice none 0 0) false 0 from blk_grown Z.out hg8 (Kd.R_ne L0.out Z.out (by decide))); have L8 := Lib.hid hR8; clear hR8 hb8 hg8 hat8 x0 x2 x4 x5; have x4 := E8.out.blk.c4; have w4z := blk_frozen E8.out.blk 4; have E9 := Lib.hid (show EdW w1 (w8.setCell ⟨g, 4, none⟩ (.bool false)) g (.slice Ao o.length ko) o f1 f2 (.slice Ai inn.length ki) inn false (f5) from EdW.set E8.out 4 (.bool false) rfl); have Z9' := Lib.hid (show EBlk (w8.setCell ⟨g, 4, none⟩ (.bool false)) (w.heap.size + 1) 61 (.slice none 0 0) 0 0 (.slice none 0 0) false 0 from blk_far Z8.out (show w.heap.size + 1 ≠ g by have := E8.out.ge; have := N1.out; omega) (.bool false)); have q4 := E9.out.blk.c4; have x0 := E9.out.blk.c0; have x1 := E9.out.blk.c1; have x2 := E9.out.blk.c2; have x3 := E9.out.blk.c3; have x5 := E9.out.blk.c5; have z0 := Z9'.out.c0; have z1 := Z9'.out.c1; have z2 := Z9'.out.c2; have z3 := Z9'.out.c3; have z4 := Z9'.out.c4; have z5 := Z9'.out.c5; have y := blk_frozen Z9'.out)
              have L9 := Lib.hid (Kd.R_set L8.out E8.out.blk (by decide) 4 (.bool false))
              replace Z := Z9'; replace B0 := Lib.hid (bb BW.out E9.out.low)
              obtain ⟨w9, hw9, Z9, F9⟩ := six Z.out (.slice Ao o.length ko) (f1) (f2) (.slice Ai inn.length ki) (false) (f5)
              rw [← hw9]
              clear hw9
              obtain rfl : r = 0 := by rw [PR.out]; unfold pollF; simp only; rw [if_neg (by rw [HZ.out]; simp), if_neg (by rw [HT.out]; simp)]
              obtain rfl : x = ⟨o, f1, f2, inn, false, f5⟩ := by rw [PX.out]; unfold pollF; simp only; rw [if_neg (by rw [HZ.out]; simp), if_neg (by rw [HT.out]; simp), if_neg (by rw [HSB.out]; simp)]
              obtain rfl : l = ([] ++ [⟨f2, true, []⟩]) := by rw [PL.out]; unfold pollF; simp only; rw [if_neg (by rw [HZ.out]; simp), if_neg (by rw [HT.out]; simp)]; show pollL _ _ _ _ _ _ = _; unfold pollL; rw [if_neg (by rw [HSB.out]; simp), if_pos rfl] <;> rfl
              refine bodyPost_ret (v := .tuple #[.agg #[.slice Ao o.length ko, .int .i64 (f1), .int .i64 (f2), .slice Ai inn.length ki, .bool false, .int .i64 (f5)], v8, .int .i64 (0)]) (by simp [results, Try.results44, go_sem, Z9.c0, Z9.c1, Z9.c2, Z9.c3, Z9.c4, Z9.c5]) rfl ⟨_, _, rfl, ⟨_, _, rfl, V_fr (Kd.R_V (base' := w1.heap.size) (Kd.R_mono (Kd.R_bound E9.out.out) (fun _ hk => hk.2.1))) F9 (fun k hk => by have := N1.out; omega) BW.out.size, V_fr (Kd.R_V (base' := w1.heap.size) (Kd.R_mono (Kd.R_bound E9.out.inn) (fun _ hk => hk.2.1))) F9 (fun k hk => by have := N1.out; omega) BW.out.size⟩, R_fr L9.out F9 (fun k hk => by have := N1.out; omega) BW.out.size, Fr.below F9 B0.out (Nat.le_refl _) (fun k hk => by omega)⟩
      · have HSB := Lib.hid (show sendB o f5 now = false by unfold sendB; rw [decide_eq_false ha]; simp)
        have L0 := Lib.hid (Kd.R_nil k83 83 w3 w1.heap.size (fun _ => True))
        clear x0 x4 z0 z1 z2 z3 z4 z5 y
        cases f4
        · have x0 := EE.out.blk.c0; have x1 := EE.out.blk.c1; have x2 := EE.out.blk.c2; have x3 := EE.out.blk.c3; have x4 := EE.out.blk.c4; have x5 := EE.out.blk.c5; have z0 := Z.out.c0; have z1 := Z.out.c1; have z2 := Z.out.c2; have z3 := Z.out.c3; have z4 := Z.out.c4; have z5 := Z.out.c5; have y := blk_frozen Z.out
          go_wp2_with fail
          obtain ⟨w9, hw9, Z9, F9⟩ := six Z.out (.slice Ao o.length ko) (f1) (f2) (.slice Ai inn.length ki) (false) (f5)
          rw [← hw9]
          clear hw9
          obtain rfl : r = 0 := by rw [PR.out]; unfold pollF; simp only; rw [if_neg (by rw [HZ.out]; simp), if_neg (by rw [HT.out]; simp)]
          obtain rfl : x = ⟨o, f1, f2, inn, false, f5⟩ := by rw [PX.out]; unfold pollF; simp only; rw [if_neg (by rw [HZ.out]; simp), if_neg (by rw [HT.out]; simp), if_neg (by rw [HSB.out]; simp)]
          obtain rfl : l = [] := by rw [PL.out]; unfold pollF; simp only; rw [if_neg (by rw [HZ.out]; simp), if_neg (by rw [HT.out]; simp)]; show pollL _ _ _ _ _ _ = _; unfold pollL; rw [if_neg (by rw [HSB.out]; simp), if_neg (by simp)] <;> rfl
          refine bodyPost_ret (v := .tuple #[.agg #[.slice Ao o.length ko, .int .i64 (f1), .int .i64 (f2), .slice Ai inn.length ki, .bool false, .int .i64 (f5)], .slice none 0 0, .int .i64 (0)]) (by simp [results, Try.results44, go_sem, Z9.c0, Z9.c1, Z9.c2, Z9.c3, Z9.c4, Z9.c5]) rfl ⟨_, _, rfl, ⟨_, _, rfl, V_fr (Kd.R_V (base' := w1.heap.size) (Kd.R_mono (Kd.R_bound EE.out.out) (fun _ hk => hk.2.1))) F9 (fun k hk => by have := N1.out; omega) BW.out.size, V_fr (Kd.R_V (base' := w1.heap.size) (Kd.R_mono (Kd.R_bound EE.out.inn) (fun _ hk => hk.2.1))) F9 (fun k hk => by have := N1.out; omega) BW.out.size⟩, R_fr L0.out F9 (fun k hk => by have := N1.out; omega) BW.out.size, Fr.below F9 B0.out (Nat.le_refl _) (fun k hk => by omega)⟩
        · have x0 := EE.out.blk.c0; have x2 := EE.out.blk.c2; have x4 := EE.out.blk.c4; have x5 := EE.out.blk.c5
          go_wp2_with ((with_reducible refine gate_builtin (b := .append) (xs := #[.tmp 75, .tmp 82]) rfl ?_); at_builtin; refine Kd.R_append k83 (w0 := w1) w1.heap.size rfl (.tmp 75) (.tmp 82) 65 83 (.agg #[.int .i64 0, .bool false, .slice none 0 0]) 40 rfl Try.underlying65 info83 rfl (by decide) (by decide) (.slice none 0 0) [] ⟨f2, true, []⟩ [.int .i64 f2, .bool true, .slice none 0 0] (fun _ => True) (fun _ => False) rfl (by first | rfl | (simp [go_sem]; done)) (k83_mkM _ _ _ ⟨f2, true, []⟩ (Kd.R_nil _ _ _ _ _)) (fun _ h => h.elim) (fun _ _ => trivial) L0.out EE.out.low EE.out.low.size (by simp) ?_; intro v8 w8 hR8 hb8 hg8 hat8; have E8 := Lib.hid (EdW.grown EE.out hg8 (Kd.R_typed L0.out) hb8); have Z8 := Lib.hid (show EBlk w8 (w.heap.size + 1) 61 (.slice none 0 0) 0 0 (.slice none 0 0) false 0 from blk_grown Z.out hg8 (Kd.R_ne L0.out Z.out (by decide))); have L8 := Lib.hid hR8; clear hR8 hb8 hg8 hat8 x0 x2 x4 x5; have x4 := E8.out.blk.c4; have w4z := blk_frozen E8.out.blk 4; have E9 := Lib.hid (show EdW w1 (w8.setCell ⟨g, 4, none⟩ (.bool false)) g (.slice Ao o.length ko) o f1 f2 (.slice Ai inn.length ki) inn false (f5) from EdW.set E8.out 4 (.bool false) rfl); have Z9' := Lib.hid (show EBlk (w8.setCell ⟨g, 4, none⟩ (.bool false)) (w.heap.size + 1) 61 (.slice none 0 0) 0 0 (.slice none 0 0) false 0 from blk_far Z8.out (show w.heap.size + 1 ≠ g by have := E8.out.ge; have := N1.out; omega) (.bool false)); have q4 := E9.out.blk.c4; have x0 := E9.out.blk.c0; have x1 := E9.out.blk.c1; have x2 := E9.out.blk.c2; have x3 := E9.out.blk.c3; have x5 := E9.out.blk.c5; have z0 := Z9'.out.c0; have z1 := Z9'.out.c1; have z2 := Z9'.out.c2; have z3 := Z9'.out.c3; have z4 := Z9'.out.c4; have z5 := Z9'.out.c5; have y := blk_frozen Z9'.out)
          have L9 := Lib.hid (Kd.R_set L8.out E8.out.blk (by decide) 4 (.bool false))
          replace Z := Z9'; replace B0 := Lib.hid (bb BW.out E9.out.low)
          obtain ⟨w9, hw9, Z9, F9⟩ := six Z.out (.slice Ao o.length ko) (f1) (f2) (.slice Ai inn.length ki) (false) (f5)
          rw [← hw9]
          clear hw9
          obtain rfl : r = 0 := by rw [PR.out]; unfold pollF; simp only; rw [if_neg (by rw [HZ.out]; simp), if_neg (by rw [HT.out]; simp)]
          obtain rfl : x = ⟨o, f1, f2, inn, false, f5⟩ := by rw [PX.out]; unfold pollF; simp only; rw [if_neg (by rw [HZ.out]; simp), if_neg (by rw [HT.out]; simp), if_neg (by rw [HSB.out]; simp)]
          obtain rfl : l = ([] ++ [⟨f2, true, []⟩]) := by rw [PL.out]; unfold pollF; simp only; rw [if_neg (by rw [HZ.out]; simp), if_neg (by rw [HT.out]; simp)]; show pollL _ _ _ _ _ _ = _; unfold pollL; rw [if_neg (by rw [HSB.out]; simp), if_pos rfl] <;> rfl
          refine bodyPost_ret (v := .tuple #[.agg #[.slice Ao o.length ko, .int .i64 (f1), .int .i64 (f2), .slice Ai inn.length ki, .bool false, .int .i64 (f5)], v8, .int .i64 (0)]) (by simp [results, Try.results44, go_sem, Z9.c0, Z9.c1, Z9.c2, Z9.c3, Z9.c4, Z9.c5]) rfl ⟨_, _, rfl, ⟨_, _, rfl, V_fr (Kd.R_V (base' := w1.heap.size) (Kd.R_mono (Kd.R_bound E9.out.out) (fun _ hk => hk.2.1))) F9 (fun k hk => by have := N1.out; omega) BW.out.size, V_fr (Kd.R_V (base' := w1.heap.size) (Kd.R_mono (Kd.R_bound E9.out.inn) (fun _ hk => hk.2.1))) F9 (fun k hk => by have := N1.out; omega) BW.out.size⟩, R_fr L9.out F9 (fun k hk => by have := N1.out; omega) BW.out.size, Fr.below F9 B0.out (Nat.le_refl _) (fun k hk => by omega)⟩
    · have HT := Lib.hid ht
      go_wp2_with fail
      obtain ⟨w9, hw9, Z9, F9⟩ := six Z.out (.slice none 0 0) (0) (0) (.slice none 0 0) (false) (0)
      rw [← hw9]
      clear hw9
      obtain rfl : r = 1 := by rw [PR.out]; unfold pollF; simp only; rw [if_neg (by rw [HZ.out]; simp), if_pos HT.out]
      obtain rfl : x = z61 := by rw [PX.out]; unfold pollF; simp only; rw [if_neg (by rw [HZ.out]; simp), if_pos HT.out]
      obtain rfl : l = [] := by rw [PL.out]; unfold pollF; simp only; rw [if_neg (by rw [HZ.out]; simp), if_pos HT.out]
      refine bodyPost_ret (v := .tuple #[.agg #[.slice none 0 0, .int .i64 (0), .int .i64 (0), .slice none 0 0, .bool false, .int .i64 (0)], .slice none 0 0, .int .i64 (1)]) (by simp [results, Try.results44, go_sem, Z9.c0, Z9.c1, Z9.c2, Z9.c3, Z9.c4, Z9.c5]) rfl ⟨_, _, rfl, EndV.zero _ _, Kd.R_nil _ _ _ _ _, Fr.below F9 B0.out (Nat.le_refl _) (fun k hk => by omega)⟩
end Go.Proofs.Ytbfhohpbldadbaa.P

namespace Go.Proofs.Ytbfhohpbldadbaa.P
open Go Go.RowKit Go.Proofs.YtbfhohpbldadbaaW.PrintWords Go.Proofs.YtbfhohpbldadbaaW.PrintLast Go.Proofs.YtbfhohpbldadbaaW.PrintMore
set_option linter.unusedVariables false
set_option linter.unusedSimpArgs false
def validBatch (b : S83) : Bool := if b.f1 = true then decide (b.f2.length = 0) else sizedB b.f2.length
def ackF (c : S61) (no : Int) : S61 × Int :=
  if no ≤ c.f1 then (c, 0) else if c.f1 + 1 < no ∨ c.f5 = -1 then (z61, 300) else (⟨c.f0.drop 1, c.f1 + 1, c.f2, c.f3, c.f4, -1⟩, 0)
def accF (c : S61) (no : Int) (recs : List S39) : S61 × Int :=
  if c.f2 < no then (z61, 300) else if no = c.f2 then (⟨c.f0, c.f1, c.f2 + 1, c.f3 ++ recs, true, c.f5⟩, 0) else (⟨c.f0, c.f1, c.f2, c.f3, true, c.f5⟩, 0)
def recvF (c : S61) (b : S83) (now : Int) : S61 × Int :=
  if clCheck c.f0 c.f1 c.f2 c.f5 ≠ 0 then (z61, clCheck c.f0 c.f1 c.f2 c.f5) else if oddT now = true ∨ oddT b.f0 = true ∨ validBatch b = false then (z61, 1) else if b.f1 = true then ackF c b.f0 else accF c b.f0 b.f2
theorem enters76 : Enters 76 := fun _ _ => by kernel_rfl
theorem enters77 : Enters 77 := fun _ _ => by kernel_rfl
set_option maxHeartbeats 16000000 in
set_option maxRecDepth 100000 in
theorem recv_calls (A0 : Option Addr) (c0 : Nat) (A3 : Option Addr) (c3 : Nat) (c : S61) (A2 : Option Addr) (c2 : Nat) (b : S83) (now : Int) (w : World) (hr : Kd.C kL w A0 c.f0.length c.f0) (hr3 : Kd.C k39 w A3 c.f3.length c.f3) (hl : c.f3.length ≤ 1000000) (hr2 : Kd.C k39 w A2 b.f2.length b.f2) :
    Calls Try.prog 46 #[vE A0 c0 A3 c3 c, .agg #[.int .i64 b.f0, .bool b.f1, .slice A2 b.f2.length c2], .int .i64 now] w (Off2 (recvF c b now).1 (recvF c b now).2 w) := by
  obtain ⟨o, f1, f2, inn, f4, f5⟩ := c
  obtain ⟨no, ack, recs⟩ := b
  simp only at hr hr3 hl hr2
  unfold vE
  simp only
  have eg76 := enters76; have eg77 := enters77
  unfold Enters at eg76 eg77
  obtain ⟨x, hx⟩ : ∃ x, x = (recvF ⟨o, f1, f2, inn, f4, f5⟩ ⟨no, ack, recs⟩ now).1 := ⟨_, rfl⟩
  obtain ⟨r, hr'⟩ : ∃ r, r = (recvF ⟨o, f1, f2, inn, f4, f5⟩ ⟨no, ack, recs⟩ now).2 := ⟨_, rfl⟩
  rw [← hx, ← hr']
  have PX := Lib.hid hx; have PR := Lib.hid hr'
  have HR := Lib.hid hr; have HR3 := Lib.hid hr3; have HL := Lib.hid hl; have HR2 := Lib.hid hr2
  clear hr hr3 hl hr2 hx hr'
  go_enter Try.func46, Try.ntmps46
  go_wp2_with fail
  obtain ⟨w1, hw1⟩ : ∃ w1, w1 = ((w.alloc (.cells #[.slice A0 o.length c0, .int .i64 f1, .int .i64 f2, .slice A3 inn.length c3, .bool f4, .int .i64 f5] 61)).alloc (.cells #[.int .i64 no, .bool ack, .slice A2 recs.length c2] 83)).alloc (.cells #[.slice none 0 0, .int .i64 0, .int .i64 0, .slice none 0 0, .bool false, .int .i64 0] 61) := ⟨_, rfl⟩
  rw [← hw1]
  have Z0 := Lib.hid (show EBlk w1 (w.heap.size + 2) 61 (.slice none 0 0) 0 0 (.slice none 0 0) false 0 by rw [hw1]; have h := EBlk.new ((w.alloc (.cells #[.slice A0 o.length c0, .int .i64 f1, .int .i64 f2, .slice A3 inn.length c3, .bool f4, .int .i64 f5] 61)).alloc (.cells #[.int .i64 no, .bool ack, .slice A2 recs.length c2] 83)) 61 (.slice none 0 0) (.slice none 0 0) 0 0 0 false; rwa [World.size_alloc, World.size_alloc] at h)
  have X := Lib.hid (show BBlk w1 (w.heap.size + 1) no ack (.slice A2 recs.length c2) by rw [hw1]; have h := (BBlk.new (w.alloc (.cells #[.slice A0 o.length c0, .int .i64 f1, .int .i64 f2, .slice A3 inn.length c3, .bool f4, .int .i64 f5] 61)) no ack (.slice A2 recs.length c2)).below (below_one _ (.cells #[.slice none 0 0, .int .i64 0, .int .i64 0, .slice none 0 0, .bool false, .int .i64 0] 61)); rwa [World.size_alloc] at h)
  have BW := Lib.hid (show Below w.heap.size w w1 by rw [hw1]; exact al (al (below_one _ _) _) _)
  have N1 := Lib.hid (show w1.heap.size = w.heap.size + 3 by rw [hw1]; simp)
  clear hw1
  refine (edit_calls A0 c0 o f1 f2 A3 c3 inn f4 f5 w1 (Kd.C_below HR.out BW.out) (Kd.C_below HR3.out BW.out) HL.out).mono ?_
  rintro e w2 (⟨hne, rfl, hb⟩ | ⟨h0, g, vo, vi, rfl, hE⟩)
  · have Z := Lib.hid (Z0.out.below hb)
    have B0 := Lib.hid (bb BW.out hb)
    clear hb
    have hz : (clCheck o f1 f2 f5 != 0) = true := by simpa using hne
    obtain ⟨err, herr⟩ : ∃ err, err = clCheck o f1 f2 f5 := ⟨_, rfl⟩
    rw [← herr] at hz hne ⊢
    have HE := Lib.hid herr; have HNE := Lib.hid hne
    clear herr hne
    have z0 := Z.out.c0; have z1 := Z.out.c1; have z2 := Z.out.c2; have z3 := Z.out.c3; have z4 := Z.out.c4; have z5 := Z.out.c5; have y := blk_frozen Z.out
    go_wp2_with fail
    obtain ⟨w9, hw9, Z9, F9⟩ := six Z.out (.slice none 0 0) (0) (0) (.slice none 0 0) (false) (0)
    rw [← hw9]
    clear hw9
    obtain rfl : err = r := by rw [PR.out]; unfold recvF; simp only; rw [if_pos (by rw [← HE.out]; exact HNE.out)]; exact HE.out
    obtain rfl : x = z61 := by rw [PX.out]; unfold recvF; simp only; rw [if_pos (by rw [← HE.out]; exact HNE.out)]
    refine bodyPost_ret (v := .tuple #[.agg #[.slice none 0 0, .int .i64 (0), .int .i64 (0), .slice none 0 0, .bool false, .int .i64 (0)], .int .i64 (err)]) (by simp [results, Try.results46, go_sem, Z9.c0, Z9.c1, Z9.c2, Z9.c3, Z9.c4, Z9.c5]) rfl ⟨_, rfl, EndV.zero _ _, Fr.below F9 B0.out (Nat.le_refl _) (fun k hk => by omega)⟩
  · have HZ := Lib.hid h0
    have EE := Lib.hid hE
    replace X := Lib.hid (X.out.below hE.low)
    clear h0 hE
    have SZ := Lib.hid (check_sized HZ.out)
    have b2 := X.out.c2
    go_wp2_with fail
    refine (sized_calls A2 recs.length c2 w2).mono ?_
    rintro e w3 ⟨rfl, hb⟩
    replace EE := Lib.hid (EE.out.below hb)
    replace X := Lib.hid (X.out.below hb)
    clear hb b2
    have b1 := X.out.c1; have b2 := X.out.c2
    cases ack
    · skip
      go_wp2_with fail
      refine (in74_calls now w3).mono ?_
      rintro e w4 ⟨rfl, hb⟩
      replace EE := Lib.hid (EE.out.below hb)
      replace X := Lib.hid (X.out.below hb)
      clear hb b1 b2
      have b0 := X.out.c0
      have Z := Lib.hid (show EBlk w4 (w.heap.size + 2) 61 (.slice none 0 0) 0 0 (.slice none 0 0) false 0 from (EE.out.low.block _ (by have := N1.out; omega)).trans Z0.out)
      have B0 := Lib.hid (bb BW.out EE.out.low)
      cases hn : oddT now
      · have HN := Lib.hid hn
        go_wp2_with fail
        refine (in74_calls no w4).mono ?_
        rintro e w5 ⟨rfl, hb⟩
        replace EE := Lib.hid (EE.out.below hb)
        replace X := Lib.hid (X.out.below hb)
        replace Z := Lib.hid (Z.out.below hb)
        replace B0 := Lib.hid (bb B0.out hb)
        clear hb b0
        cases hno : oddT no
        · have HNO := Lib.hid hno
          cases hs : sizedB recs.length
          · have HS := Lib.hid hs
            have z0 := Z.out.c0; have z1 := Z.out.c1; have z2 := Z.out.c2; have z3 := Z.out.c3; have z4 := Z.out.c4; have z5 := Z.out.c5; have y := blk_frozen Z.out
            go_wp2_with fail
            obtain ⟨w9, hw9, Z9, F9⟩ := six Z.out (.slice none 0 0) (0) (0) (.slice none 0 0) (false) (0)
            rw [← hw9]
            clear hw9
            obtain rfl : r = 1 := by rw [PR.out]; unfold recvF; simp only; rw [if_neg (by rw [HZ.out]; simp), if_pos (Or.inr (Or.inr (show validBatch ⟨no, false, recs⟩ = false from HS.out)))]
            obtain rfl : x = z61 := by rw [PX.out]; unfold recvF; simp only; rw [if_neg (by rw [HZ.out]; simp), if_pos (Or.inr (Or.inr (show validBatch ⟨no, false, recs⟩ = false from HS.out)))]
            refine bodyPost_ret (v := .tuple #[.agg #[.slice none 0 0, .int .i64 (0), .int .i64 (0), .slice none 0 0, .bool false, .int .i64 (0)], .int .i64 (1)]) (by simp [results, Try.results46, go_sem, Z9.c0, Z9.c1, Z9.c2, Z9.c3, Z9.c4, Z9.c5]) rfl ⟨_, rfl, EndV.zero _ _, Fr.below F9 B0.out (Nat.le_refl _) (fun k hk => by omega)⟩
          · have HS := Lib.hid hs
            have b0 := X.out.c0; have b1 := X.out.c1; have b2 := X.out.c2
            go_wp2_with fail
            refine (accept_calls w1 g vo vi o f1 f2 inn f4 f5 no false A2 c2 recs w5 EE.out (Kd.C_below HR2.out B0.out) SZ.out.2.2.2.2.1 SZ.out.2.2.2.2.2.1 HL.out (by have h := HS.out; unfold sizedB at h; simp only [Bool.and_eq_true, decide_eq_true_eq] at h; omega)).mono ?_
            rintro e w6 (⟨hgt, rfl, hb⟩ | ⟨rfl, rfl, vi2, hE6⟩ | ⟨hlt, rfl, hE6⟩)
            · have HG := Lib.hid hgt
              have Z := Lib.hid (show EBlk w6 (w.heap.size + 2) 61 (.slice none 0 0) 0 0 (.slice none 0 0) false 0 from (hb.block _ (by have := N1.out; omega)).trans Z0.out)
              have B0 := Lib.hid (bb BW.out hb)
              clear hb hgt b0 b1 b2
              have z0 := Z.out.c0; have z1 := Z.out.c1; have z2 := Z.out.c2; have z3 := Z.out.c3; have z4 := Z.out.c4; have z5 := Z.out.c5; have y := blk_frozen Z.out
              go_wp2_with fail
              obtain ⟨w9, hw9, Z9, F9⟩ := six Z.out (.slice none 0 0) (0) (0) (.slice none 0 0) (false) (0)
              rw [← hw9]
              clear hw9
              obtain rfl : r = 300 := by rw [PR.out]; unfold recvF; simp only; rw [if_neg (by rw [HZ.out]; simp), if_neg (by rw [HN.out, HNO.out, (show validBatch ⟨no, false, recs⟩ = true from HS.out)]; simp), if_neg (by simp)]; unfold accF; simp only; rw [if_pos HG.out]
              obtain rfl : x = z61 := by rw [PX.out]; unfold recvF; simp only; rw [if_neg (by rw [HZ.out]; simp), if_neg (by rw [HN.out, HNO.out, (show validBatch ⟨no, false, recs⟩ = true from HS.out)]; simp), if_neg (by simp)]; unfold accF; simp only; rw [if_pos HG.out]
              refine bodyPost_ret (v := .tuple #[.agg #[.slice none 0 0, .int .i64 (0), .int .i64 (0), .slice none 0 0, .bool false, .int .i64 (0)], .int .i64 (300)]) (by simp [results, Try.results46, go_sem, Z9.c0, Z9.c1, Z9.c2, Z9.c3, Z9.c4, Z9.c5]) rfl ⟨_, rfl, EndV.zero _ _, Fr.below F9 B0.out (Nat.le_refl _) (fun k hk => by omega)⟩
            · skip
              have Z := Lib.hid (show EBlk w6 (w.heap.size + 2) 61 (.slice none 0 0) 0 0 (.slice none 0 0) false 0 from (hE6.low.block _ (by have := N1.out; omega)).trans Z0.out)
              have B0 := Lib.hid (bb BW.out hE6.low)
              obtain ⟨Ao, ko, rfl⟩ := Kd.R_slice hE6.out
              obtain ⟨Ai, ki, rfl⟩ := Kd.R_slice hE6.inn
              have hlen : (inn ++ recs).length = inn.length + recs.length := List.length_append
              have E6 := Lib.hid hE6
              clear hE6 b0 b1 b2
              simp only [hlen] at E6
              clear hlen
              have x0 := E6.out.blk.c0; have x1 := E6.out.blk.c1; have x2 := E6.out.blk.c2; have x3 := E6.out.blk.c3; have x4 := E6.out.blk.c4; have x5 := E6.out.blk.c5
              have z0 := Z.out.c0; have z1 := Z.out.c1; have z2 := Z.out.c2; have z3 := Z.out.c3; have z4 := Z.out.c4; have z5 := Z.out.c5; have y := blk_frozen Z.out
              go_wp2_with fail
              obtain ⟨w9, hw9, Z9, F9⟩ := six Z.out (.slice Ao o.length ko) (f1) (no + 1) (.slice Ai (inn.length + recs.length) ki) (true) (f5)
              rw [← hw9]
              clear hw9
              obtain rfl : r = 0 := by rw [PR.out]; unfold recvF; simp only; rw [if_neg (by rw [HZ.out]; simp), if_neg (by rw [HN.out, HNO.out, (show validBatch ⟨no, false, recs⟩ = true from HS.out)]; simp), if_neg (by simp)]; unfold accF; simp only; rw [if_neg (by omega), if_pos trivial]
              obtain rfl : x = ⟨o, f1, no + 1, (inn ++ recs), true, f5⟩ := by rw [PX.out]; unfold recvF; simp only; rw [if_neg (by rw [HZ.out]; simp), if_neg (by rw [HN.out, HNO.out, (show validBatch ⟨no, false, recs⟩ = true from HS.out)]; simp), if_neg (by simp)]; unfold accF; simp only; rw [if_neg (by omega), if_pos trivial]
              refine bodyPost_ret (v := .tuple #[.agg #[.slice Ao o.length ko, .int .i64 (f1), .int .i64 (no + 1), .slice Ai (inn.length + recs.length) ki, .bool true, .int .i64 (f5)], .int .i64 (0)]) (by simp [results, Try.results46, go_sem, Z9.c0, Z9.c1, Z9.c2, Z9.c3, Z9.c4, Z9.c5]) rfl ⟨_, rfl, ⟨_, _, rfl, V_fr E6.out.v.out F9 (fun k hk => by have := N1.out; omega) BW.out.size, V_fr E6.out.v.inn F9 (fun k hk => by have := N1.out; omega) BW.out.size⟩, Fr.below F9 B0.out (Nat.le_refl _) (fun k hk => by omega)⟩
            · have HLT := Lib.hid hlt
              have Z := Lib.hid (show EBlk w6 (w.heap.size + 2) 61 (.slice none 0 0) 0 0 (.slice none 0 0) false 0 from (hE6.low.block _ (by have := N1.out; omega)).trans Z0.out)
              have B0 := Lib.hid (bb BW.out hE6.low)
              obtain ⟨Ao, ko, rfl⟩ := Kd.R_slice hE6.out
              obtain ⟨Ai, ki, rfl⟩ := Kd.R_slice hE6.inn
              have hlen : inn.length = inn.length := rfl
              have E6 := Lib.hid hE6
              clear hE6 b0 b1 b2
              clear hlen
              have x0 := E6.out.blk.c0; have x1 := E6.out.blk.c1; have x2 := E6.out.blk.c2; have x3 := E6.out.blk.c3; have x4 := E6.out.blk.c4; have x5 := E6.out.blk.c5
              have z0 := Z.out.c0; have z1 := Z.out.c1; have z2 := Z.out.c2; have z3 := Z.out.c3; have z4 := Z.out.c4; have z5 := Z.out.c5; have y := blk_frozen Z.out
              go_wp2_with fail
              obtain ⟨w9, hw9, Z9, F9⟩ := six Z.out (.slice Ao o.length ko) (f1) (f2) (.slice Ai (inn.length) ki) (true) (f5)
              rw [← hw9]
              clear hw9
              obtain rfl : r = 0 := by rw [PR.out]; unfold recvF; simp only; rw [if_neg (by rw [HZ.out]; simp), if_neg (by rw [HN.out, HNO.out, (show validBatch ⟨no, false, recs⟩ = true from HS.out)]; simp), if_neg (by simp)]; unfold accF; simp only; rw [if_neg (by have := HLT.out; omega), if_neg (by have := HLT.out; omega)]
              obtain rfl : x = ⟨o, f1, f2, inn, true, f5⟩ := by rw [PX.out]; unfold recvF; simp only; rw [if_neg (by rw [HZ.out]; simp), if_neg (by rw [HN.out, HNO.out, (show validBatch ⟨no, false, recs⟩ = true from HS.out)]; simp), if_neg (by simp)]; unfold accF; simp only; rw [if_neg (by have := HLT.out; omega), if_neg (by have := HLT.out; omega)]
              refine bodyPost_ret (v := .tuple #[.agg #[.slice Ao o.length ko, .int .i64 (f1), .int .i64 (f2), .slice Ai (inn.length) ki, .bool true, .int .i64 (f5)], .int .i64 (0)]) (by simp [results, Try.results46, go_sem, Z9.c0, Z9.c1, Z9.c2, Z9.c3, Z9.c4, Z9.c5]) rfl ⟨_, rfl, ⟨_, _, rfl, V_fr E6.out.v.out F9 (fun k hk => by have := N1.out; omega) BW.out.size, V_fr E6.out.v.inn F9 (fun k hk => by have := N1.out; omega) BW.out.size⟩, Fr.below F9 B0.out (Nat.le_refl _) (fun k hk => by omega)⟩
        · have HNO := Lib.hid hno
          have z0 := Z.out.c0; have z1 := Z.out.c1; have z2 := Z.out.c2; have z3 := Z.out.c3; have z4 := Z.out.c4; have z5 := Z.out.c5; have y := blk_frozen Z.out
          go_wp2_with fail
          obtain ⟨w9, hw9, Z9, F9⟩ := six Z.out (.slice none 0 0) (0) (0) (.slice none 0 0) (false) (0)
          rw [← hw9]
          clear hw9
          obtain rfl : r = 1 := by rw [PR.out]; unfold recvF; simp only; rw [if_neg (by rw [HZ.out]; simp), if_pos (Or.inr (Or.inl HNO.out))]
          obtain rfl : x = z61 := by rw [PX.out]; unfold recvF; simp only; rw [if_neg (by rw [HZ.out]; simp), if_pos (Or.inr (Or.inl HNO.out))]
          refine bodyPost_ret (v := .tuple #[.agg #[.slice none 0 0, .int .i64 (0), .int .i64 (0), .slice none 0 0, .bool false, .int .i64 (0)], .int .i64 (1)]) (by simp [results, Try.results46, go_sem, Z9.c0, Z9.c1, Z9.c2, Z9.c3, Z9.c4, Z9.c5]) rfl ⟨_, rfl, EndV.zero _ _, Fr.below F9 B0.out (Nat.le_refl _) (fun k hk => by omega)⟩
      · have HN := Lib.hid hn
        have z0 := Z.out.c0; have z1 := Z.out.c1; have z2 := Z.out.c2; have z3 := Z.out.c3; have z4 := Z.out.c4; have z5 := Z.out.c5; have y := blk_frozen Z.out
        go_wp2_with fail
        obtain ⟨w9, hw9, Z9, F9⟩ := six Z.out (.slice none 0 0) (0) (0) (.slice none 0 0) (false) (0)
        rw [← hw9]
        clear hw9
        obtain rfl : r = 1 := by rw [PR.out]; unfold recvF; simp only; rw [if_neg (by rw [HZ.out]; simp), if_pos (Or.inl HN.out)]
        obtain rfl : x = z61 := by rw [PX.out]; unfold recvF; simp only; rw [if_neg (by rw [HZ.out]; simp), if_pos (Or.inl HN.out)]
        refine bodyPost_ret (v := .tuple #[.agg #[.slice none 0 0, .int .i64 (0), .int .i64 (0), .slice none 0 0, .bool false, .int .i64 (0)], .int .i64 (1)]) (by simp [results, Try.results46, go_sem, Z9.c0, Z9.c1, Z9.c2, Z9.c3, Z9.c4, Z9.c5]) rfl ⟨_, rfl, EndV.zero _ _, Fr.below F9 B0.out (Nat.le_refl _) (fun k hk => by omega)⟩
    · skip
      by_cases hl0 : recs.length = 0
      · have HS := Lib.hid (show validBatch ⟨no, true, recs⟩ = true by unfold validBatch; simp [hl0])
        rw [hl0] at b2
        have X2 := Lib.hid (show BBlk w3 (w.heap.size + 1) no true (.slice A2 0 c2) by have h := X.out; rw [hl0] at h; exact h)
        clear X hl0
        have X := X2
        clear X2
        go_wp2_with fail
        refine (in74_calls now w3).mono ?_
        rintro e w4 ⟨rfl, hb⟩
        replace EE := Lib.hid (EE.out.below hb)
        replace X := Lib.hid (X.out.below hb)
        clear hb b1 b2
        have b0 := X.out.c0
        have Z := Lib.hid (show EBlk w4 (w.heap.size + 2) 61 (.slice none 0 0) 0 0 (.slice none 0 0) false 0 from (EE.out.low.block _ (by have := N1.out; omega)).trans Z0.out)
        have B0 := Lib.hid (bb BW.out EE.out.low)
        cases hn : oddT now
        · have HN := Lib.hid hn
          go_wp2_with fail
          refine (in74_calls no w4).mono ?_
          rintro e w5 ⟨rfl, hb⟩
          replace EE := Lib.hid (EE.out.below hb)
          replace X := Lib.hid (X.out.below hb)
          replace Z := Lib.hid (Z.out.below hb)
          replace B0 := Lib.hid (bb B0.out hb)
          clear hb b0
          cases hno : oddT no
          · have HNO := Lib.hid hno
            have b0 := X.out.c0; have b1 := X.out.c1; have b2 := X.out.c2
            go_wp2_with fail
            refine (ack_calls w1 g vo vi o f1 f2 inn f4 f5 no true (.slice A2 0 c2) w5 EE.out SZ.out.2.2.1 SZ.out.2.2.2.1 (fun h => (SZ.out.2.2.2.2.2.2.resolve_left h).1) ⟨_, _, _, rfl⟩).mono ?_
            rintro e w6 (⟨hle, rfl, hE6⟩ | ⟨hor, rfl, hb⟩ | ⟨⟨heq, hd⟩, rfl, vo2, hE6⟩)
            · have HLE := Lib.hid hle
              have hV := hE6.v
              clear hE6
              have Z := Lib.hid (show EBlk w6 (w.heap.size + 2) 61 (.slice none 0 0) 0 0 (.slice none 0 0) false 0 from (hV.low.block _ (by have := N1.out; omega)).trans Z0.out)
              have B0 := Lib.hid (bb BW.out hV.low)
              obtain ⟨Ao, ko, rfl⟩ := Kd.V_slice hV.out
              obtain ⟨Ai, ki, rfl⟩ := Kd.V_slice hV.inn
              have E6 := Lib.hid hV
              clear hV b0 b1 b2 hle
              have x0 := E6.out.blk.c0; have x1 := E6.out.blk.c1; have x2 := E6.out.blk.c2; have x3 := E6.out.blk.c3; have x4 := E6.out.blk.c4; have x5 := E6.out.blk.c5
              have z0 := Z.out.c0; have z1 := Z.out.c1; have z2 := Z.out.c2; have z3 := Z.out.c3; have z4 := Z.out.c4; have z5 := Z.out.c5; have y := blk_frozen Z.out
              go_wp2_with fail
              obtain ⟨w9, hw9, Z9, F9⟩ := six Z.out (.slice Ao o.length ko) (f1) (f2) (.slice Ai inn.length ki) (f4) (f5)
              rw [← hw9]
              clear hw9
              obtain rfl : r = 0 := by rw [PR.out]; unfold recvF; simp only; rw [if_neg (by rw [HZ.out]; simp), if_neg (by rw [HN.out, HNO.out, HS.out]; simp), if_pos (by simp)]; unfold ackF; simp only; rw [if_pos HLE.out]
              obtain rfl : x = ⟨o, f1, f2, inn, f4, f5⟩ := by rw [PX.out]; unfold recvF; simp only; rw [if_neg (by rw [HZ.out]; simp), if_neg (by rw [HN.out, HNO.out, HS.out]; simp), if_pos (by simp)]; unfold ackF; simp only; rw [if_pos HLE.out]
              refine bodyPost_ret (v := .tuple #[.agg #[.slice Ao o.length ko, .int .i64 (f1), .int .i64 (f2), .slice Ai inn.length ki, .bool f4, .int .i64 (f5)], .int .i64 (0)]) (by simp [results, Try.results46, go_sem, Z9.c0, Z9.c1, Z9.c2, Z9.c3, Z9.c4, Z9.c5]) rfl ⟨_, rfl, ⟨_, _, rfl, V_fr E6.out.out F9 (fun k hk => by have := N1.out; omega) BW.out.size, V_fr E6.out.inn F9 (fun k hk => by have := N1.out; omega) BW.out.size⟩, Fr.below F9 B0.out (Nat.le_refl _) (fun k hk => by omega)⟩
            · have HO := Lib.hid hor
              have Z := Lib.hid (show EBlk w6 (w.heap.size + 2) 61 (.slice none 0 0) 0 0 (.slice none 0 0) false 0 from (hb.block _ (by have := N1.out; omega)).trans Z0.out)
              have B0 := Lib.hid (bb BW.out hb)
              clear hb hor b0 b1 b2
              have z0 := Z.out.c0; have z1 := Z.out.c1; have z2 := Z.out.c2; have z3 := Z.out.c3; have z4 := Z.out.c4; have z5 := Z.out.c5; have y := blk_frozen Z.out
              go_wp2_with fail
              obtain ⟨w9, hw9, Z9, F9⟩ := six Z.out (.slice none 0 0) (0) (0) (.slice none 0 0) (false) (0)
              rw [← hw9]
              clear hw9
              obtain rfl : r = 300 := by rw [PR.out]; unfold recvF; simp only; rw [if_neg (by rw [HZ.out]; simp), if_neg (by rw [HN.out, HNO.out, HS.out]; simp), if_pos (by simp)]; unfold ackF; simp only; rw [if_neg (by have := HO.out.1; omega), if_pos HO.out.2]
              obtain rfl : x = z61 := by rw [PX.out]; unfold recvF; simp only; rw [if_neg (by rw [HZ.out]; simp), if_neg (by rw [HN.out, HNO.out, HS.out]; simp), if_pos (by simp)]; unfold ackF; simp only; rw [if_neg (by have := HO.out.1; omega), if_pos HO.out.2]
              refine bodyPost_ret (v := .tuple #[.agg #[.slice none 0 0, .int .i64 (0), .int .i64 (0), .slice none 0 0, .bool false, .int .i64 (0)], .int .i64 (300)]) (by simp [results, Try.results46, go_sem, Z9.c0, Z9.c1, Z9.c2, Z9.c3, Z9.c4, Z9.c5]) rfl ⟨_, rfl, EndV.zero _ _, Fr.below F9 B0.out (Nat.le_refl _) (fun k hk => by omega)⟩
            · have HEQ := Lib.hid heq; have HD := Lib.hid hd
              have hV := hE6
              clear hE6
              have Z := Lib.hid (show EBlk w6 (w.heap.size + 2) 61 (.slice none 0 0) 0 0 (.slice none 0 0) false 0 from (hV.low.block _ (by have := N1.out; omega)).trans Z0.out)
              have B0 := Lib.hid (bb BW.out hV.low)
              obtain ⟨Ao, ko, rfl⟩ := Kd.V_slice hV.out
              obtain ⟨Ai, ki, rfl⟩ := Kd.V_slice hV.inn
              obtain ⟨n6, hn6⟩ : ∃ n6, n6 = ((o.drop 1)).length := ⟨_, rfl⟩
              rw [← hn6] at hV
              have HN6 := Lib.hid hn6
              clear hn6
              have E6 := Lib.hid hV
              clear hV b0 b1 b2 heq hd
              have x0 := E6.out.blk.c0; have x1 := E6.out.blk.c1; have x2 := E6.out.blk.c2; have x3 := E6.out.blk.c3; have x4 := E6.out.blk.c4; have x5 := E6.out.blk.c5
              have z0 := Z.out.c0; have z1 := Z.out.c1; have z2 := Z.out.c2; have z3 := Z.out.c3; have z4 := Z.out.c4; have z5 := Z.out.c5; have y := blk_frozen Z.out
              go_wp2_with fail
              obtain ⟨w9, hw9, Z9, F9⟩ := six Z.out (.slice Ao n6 ko) ((f1 + 1)) (f2) (.slice Ai inn.length ki) (f4) ((-1))
              rw [← hw9]
              clear hw9
              obtain rfl : r = 0 := by rw [PR.out]; unfold recvF; simp only; rw [if_neg (by rw [HZ.out]; simp), if_neg (by rw [HN.out, HNO.out, HS.out]; simp), if_pos (by simp)]; unfold ackF; simp only; rw [if_neg (by have := HEQ.out; omega), if_neg (by have := HEQ.out; have := HD.out; omega)]
              obtain rfl : x = ⟨(o.drop 1), (f1 + 1), f2, inn, f4, (-1)⟩ := by rw [PX.out]; unfold recvF; simp only; rw [if_neg (by rw [HZ.out]; simp), if_neg (by rw [HN.out, HNO.out, HS.out]; simp), if_pos (by simp)]; unfold ackF; simp only; rw [if_neg (by have := HEQ.out; omega), if_neg (by have := HEQ.out; have := HD.out; omega)]
              refine bodyPost_ret (v := .tuple #[.agg #[.slice Ao n6 ko, .int .i64 ((f1 + 1)), .int .i64 (f2), .slice Ai inn.length ki, .bool f4, .int .i64 ((-1))], .int .i64 (0)]) (by simp [results, Try.results46, go_sem, Z9.c0, Z9.c1, Z9.c2, Z9.c3, Z9.c4, Z9.c5]) rfl ⟨_, rfl, ⟨_, _, rfl, V_fr E6.out.out F9 (fun k hk => by have := N1.out; omega) BW.out.size, V_fr E6.out.inn F9 (fun k hk => by have := N1.out; omega) BW.out.size⟩, Fr.below F9 B0.out (Nat.le_refl _) (fun k hk => by omega)⟩
          · have HNO := Lib.hid hno
            have z0 := Z.out.c0; have z1 := Z.out.c1; have z2 := Z.out.c2; have z3 := Z.out.c3; have z4 := Z.out.c4; have z5 := Z.out.c5; have y := blk_frozen Z.out
            go_wp2_with fail
            obtain ⟨w9, hw9, Z9, F9⟩ := six Z.out (.slice none 0 0) (0) (0) (.slice none 0 0) (false) (0)
            rw [← hw9]
            clear hw9
            obtain rfl : r = 1 := by rw [PR.out]; unfold recvF; simp only; rw [if_neg (by rw [HZ.out]; simp), if_pos (Or.inr (Or.inl HNO.out))]
            obtain rfl : x = z61 := by rw [PX.out]; unfold recvF; simp only; rw [if_neg (by rw [HZ.out]; simp), if_pos (Or.inr (Or.inl HNO.out))]
            refine bodyPost_ret (v := .tuple #[.agg #[.slice none 0 0, .int .i64 (0), .int .i64 (0), .slice none 0 0, .bool false, .int .i64 (0)], .int .i64 (1)]) (by simp [results, Try.results46, go_sem, Z9.c0, Z9.c1, Z9.c2, Z9.c3, Z9.c4, Z9.c5]) rfl ⟨_, rfl, EndV.zero _ _, Fr.below F9 B0.out (Nat.le_refl _) (fun k hk => by omega)⟩
        · have HN := Lib.hid hn
          have z0 := Z.out.c0; have z1 := Z.out.c1; have z2 := Z.out.c2; have z3 := Z.out.c3; have z4 := Z.out.c4; have z5 := Z.out.c5; have y := blk_frozen Z.out
          go_wp2_with fail
          obtain ⟨w9, hw9, Z9, F9⟩ := six Z.out (.slice none 0 0) (0) (0) (.slice none 0 0) (false) (0)
          rw [← hw9]
          clear hw9
          obtain rfl : r = 1 := by rw [PR.out]; unfold recvF; simp only; rw [if_neg (by rw [HZ.out]; simp), if_pos (Or.inl HN.out)]
          obtain rfl : x = z61 := by rw [PX.out]; unfold recvF; simp only; rw [if_neg (by rw [HZ.out]; simp), if_pos (Or.inl HN.out)]
          refine bodyPost_ret (v := .tuple #[.agg #[.slice none 0 0, .int .i64 (0), .int .i64 (0), .slice none 0 0, .bool false, .int .i64 (0)], .int .i64 (1)]) (by simp [results, Try.results46, go_sem, Z9.c0, Z9.c1, Z9.c2, Z9.c3, Z9.c4, Z9.c5]) rfl ⟨_, rfl, EndV.zero _ _, Fr.below F9 B0.out (Nat.le_refl _) (fun k hk => by omega)⟩
      · have HS := Lib.hid (show validBatch ⟨no, true, recs⟩ = false by unfold validBatch; simp [hl0])
        have hlz : ((recs.length : Int) == 0) = false := by simp only [beq_eq_false_iff_ne]; omega
        clear hl0
        go_wp2_with fail
        refine (in74_calls now w3).mono ?_
        rintro e w4 ⟨rfl, hb⟩
        replace EE := Lib.hid (EE.out.below hb)
        replace X := Lib.hid (X.out.below hb)
        clear hb b1 b2
        have b0 := X.out.c0
        have Z := Lib.hid (show EBlk w4 (w.heap.size + 2) 61 (.slice none 0 0) 0 0 (.slice none 0 0) false 0 from (EE.out.low.block _ (by have := N1.out; omega)).trans Z0.out)
        have B0 := Lib.hid (bb BW.out EE.out.low)
        cases hn : oddT now
        · have HN := Lib.hid hn
          go_wp2_with fail
          refine (in74_calls no w4).mono ?_
          rintro e w5 ⟨rfl, hb⟩
          replace EE := Lib.hid (EE.out.below hb)
          replace X := Lib.hid (X.out.below hb)
          replace Z := Lib.hid (Z.out.below hb)
          replace B0 := Lib.hid (bb B0.out hb)
          clear hb b0
          cases hno : oddT no
          · have HNO := Lib.hid hno
            have z0 := Z.out.c0; have z1 := Z.out.c1; have z2 := Z.out.c2; have z3 := Z.out.c3; have z4 := Z.out.c4; have z5 := Z.out.c5; have y := blk_frozen Z.out
            go_wp2_with fail
            obtain ⟨w9, hw9, Z9, F9⟩ := six Z.out (.slice none 0 0) (0) (0) (.slice none 0 0) (false) (0)
            rw [← hw9]
            clear hw9
            obtain rfl : r = 1 := by rw [PR.out]; unfold recvF; simp only; rw [if_neg (by rw [HZ.out]; simp), if_pos (Or.inr (Or.inr HS.out))]
            obtain rfl : x = z61 := by rw [PX.out]; unfold recvF; simp only; rw [if_neg (by rw [HZ.out]; simp), if_pos (Or.inr (Or.inr HS.out))]
            refine bodyPost_ret (v := .tuple #[.agg #[.slice none 0 0, .int .i64 (0), .int .i64 (0), .slice none 0 0, .bool false, .int .i64 (0)], .int .i64 (1)]) (by simp [results, Try.results46, go_sem, Z9.c0, Z9.c1, Z9.c2, Z9.c3, Z9.c4, Z9.c5]) rfl ⟨_, rfl, EndV.zero _ _, Fr.below F9 B0.out (Nat.le_refl _) (fun k hk => by omega)⟩
          · have HNO := Lib.hid hno
            have z0 := Z.out.c0; have z1 := Z.out.c1; have z2 := Z.out.c2; have z3 := Z.out.c3; have z4 := Z.out.c4; have z5 := Z.out.c5; have y := blk_frozen Z.out
            go_wp2_with fail
            obtain ⟨w9, hw9, Z9, F9⟩ := six Z.out (.slice none 0 0) (0) (0) (.slice none 0 0) (false) (0)
            rw [← hw9]
            clear hw9
            obtain rfl : r = 1 := by rw [PR.out]; unfold recvF; simp only; rw [if_neg (by rw [HZ.out]; simp), if_pos (Or.inr (Or.inl HNO.out))]
            obtain rfl : x = z61 := by rw [PX.out]; unfold recvF; simp only; rw [if_neg (by rw [HZ.out]; simp), if_pos (Or.inr (Or.inl HNO.out))]
            refine bodyPost_ret (v := .tuple #[.agg #[.slice none 0 0, .int .i64 (0), .int .i64 (0), .slice none 0 0, .bool false, .int .i64 (0)], .int .i64 (1)]) (by simp [results, Try.results46, go_sem, Z9.c0, Z9.c1, Z9.c2, Z9.c3, Z9.c4, Z9.c5]) rfl ⟨_, rfl, EndV.zero _ _, Fr.below F9 B0.out (Nat.le_refl _) (fun k hk => by omega)⟩
        · have HN := Lib.hid hn
          have z0 := Z.out.c0; have z1 := Z.out.c1; have z2 := Z.out.c2; have z3 := Z.out.c3; have z4 := Z.out.c4; have z5 := Z.out.c5; have y := blk_frozen Z.out
          go_wp2_with fail
          obtain ⟨w9, hw9, Z9, F9⟩ := six Z.out (.slice none 0 0) (0) (0) (.slice none 0 0) (false) (0)
          rw [← hw9]
          clear hw9
          obtain rfl : r = 1 := by rw [PR.out]; unfold recvF; simp only; rw [if_neg (by rw [HZ.out]; simp), if_pos (Or.inl HN.out)]
          obtain rfl : x = z61 := by rw [PX.out]; unfold recvF; simp only; rw [if_neg (by rw [HZ.out]; simp), if_pos (Or.inl HN.out)]
          refine bodyPost_ret (v := .tuple #[.agg #[.slice none 0 0, .int .i64 (0), .int .i64 (0), .slice none 0 0, .bool false, .int .i64 (0)], .int .i64 (1)]) (by simp [results, Try.results46, go_sem, Z9.c0, Z9.c1, Z9.c2, Z9.c3, Z9.c4, Z9.c5]) rfl ⟨_, rfl, EndV.zero _ _, Fr.below F9 B0.out (Nat.le_refl _) (fun k hk => by omega)⟩
end Go.Proofs.Ytbfhohpbldadbaa.P

