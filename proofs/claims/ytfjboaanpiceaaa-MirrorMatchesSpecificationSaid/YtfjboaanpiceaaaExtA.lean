import Derived.Test.YtfjboaanpiceaaaPx0
import Derived.Lib.Hide
import Derived.WalkSpells
import Derived.Deep.QuietTactic
import Derived.BigQuiet
namespace Go.Proofs.Ytfjboaanpiceaaa.P
open Go.RowKit Go.Proofs.YtfjboaanpiceaaaW.PrintWords Go.Proofs.YtfjboaanpiceaaaW.PrintLast Go.Proofs.YtfjboaanpiceaaaW.PrintMore
set_option linter.unusedVariables false
set_option linter.unusedSimpArgs false

def oddB (n : Int) : Bool := decide (n < 0) || decide (1099511627776 < n)
def knownB (i : Int) : Bool := decide (0 ≤ i) && decide (i < 2)

theorem odd_calls (n : Int) (w : World) : Calls Try.prog 46 #[.int .i64 n] w fun e w' => e = .returned (.bool (oddB n)) ∧ w = w' := by
  by_cases h : n < 0
  · go_enter Try.func46, Try.ntmps46
    go_wp2
    go_ret
    exact ⟨by simp [oddB, h], rfl⟩
  · by_cases h2 : 1099511627776 < n
    · go_enter Try.func46, Try.ntmps46
      go_wp2
      go_ret
      exact ⟨by simp [oddB, h, h2], rfl⟩
    · go_enter Try.func46, Try.ntmps46
      go_wp2
      go_ret
      exact ⟨by simp [oddB, h, h2], rfl⟩

theorem known_calls (p : Value) (i : Int) (w : World) : Calls Try.prog 35 #[p, .int .i64 i] w fun e w' => e = .returned (.bool (knownB i)) ∧ w = w' := by
  by_cases h : 0 ≤ i
  · by_cases h2 : i < 2
    · go_enter Try.func35, Try.ntmps35
      go_wp2
      go_ret
      exact ⟨by simp [knownB, h, h2], rfl⟩
    · go_enter Try.func35, Try.ntmps35
      go_wp2
      go_ret
      exact ⟨by simp [knownB, h, h2], rfl⟩
  · have hk : knownB i = false := by simp [knownB, h]
    rw [hk]
    go_enter Try.func35, Try.ntmps35
    go_wp2
    go_ret
    exact ⟨rfl, rfl⟩

theorem known_is (p : Value) (i : Int) (b : Bool) (w : World) (h : knownB i = b) : Calls Try.prog 35 #[p, .int .i64 i] w fun e w' => e = .returned (.bool b) ∧ w' = w := by
  subst h
  exact (known_calls p i w).mono fun _ _ ⟨h1, h2⟩ => ⟨h1, h2.symm⟩
theorem require_calls (b : Bool) (w : World) : Calls Try.prog 28 #[.bool b] w fun e w' => e = .returned (.int .i64 (if b then 0 else 330)) ∧ w = w' := by
  cases b
  · go_enter Try.func28, Try.ntmps28
    go_wp2
    go_ret
    exact ⟨rfl, rfl⟩
  · go_enter Try.func28, Try.ntmps28
    go_wp2
    go_ret
    exact ⟨rfl, rfl⟩

theorem C_cell {w : World} {A : Option Addr} {n : Nat} {xs : List Int} (h : Kd.C (Kd.int .i64) w A n xs) (i : Nat) (hi : i < n) : ∃ ad, A = some ad ∧ w.cell? (ad.add i) = some (.int .i64 (xs.getD i 0)) := by
  obtain ⟨ad, c, hA, hl, hk, hc⟩ := Kd.C_get h 0 (i : Int) (by omega) (by omega)
  refine ⟨ad, hA, ?_⟩
  have hk' : c = [.int .i64 (xs.getD i 0)] := hk
  have := hc 0 (.int .i64 (xs.getD i 0)) (by rw [hk']; rfl)
  simpa [Kd.int, Kd.scalar] using this

theorem any_take_succ {p : Int → Bool} {xs : List Int} {k : Nat} (hk : k < xs.length) (h : (xs.take k).any p = false) (h2 : p xs[k] = false) : (xs.take (k + 1)).any p = false := by
  rw [List.take_succ_eq_append_getElem hk, List.any_append, h]
  simp [h2]
theorem any_of_at {p : Int → Bool} {xs : List Int} {k : Nat} (hk : k < xs.length) (h2 : p xs[k] = true) : xs.any p = true := List.any_eq_true.2 ⟨xs[k], List.getElem_mem hk, h2⟩

def SomeIdx (w : World) (P : Int → Prop) (e : Ending) (w' : World) : Prop := ∃ r : Int, e = .returned (.int .i64 r) ∧ P r ∧ w = w'
set_option maxHeartbeats 400000 in
theorem indexOdd_calls (A : Option Addr) (c : Nat) (xs : List Int) (w : World) (hr : Kd.C (Kd.int .i64) w A xs.length xs) :
    Calls Try.prog 48 #[.slice A xs.length c, .func (.func 46) #[] #[]] w (SomeIdx w fun r => decide (0 ≤ r) = xs.any oddB) := by
  have hm : xs.length ≤ 9223372036854775807 := by
    have := hr.2.1; omega
  have HR := Lib.hid hr
  clear hr
  go_enter Try.func48, Try.ntmps48
  go_wp2
  go_loop [4, 5, 8] (fun _ _ i => ∃ k : Nat, k ≤ xs.length ∧ i = .int .i64 k ∧ (xs.take k).any oddB = false) (fun _ _ i => xs.length - (intOf i).toNat)
  case atStart => exact ⟨0, Nat.zero_le _, rfl, rfl⟩
  case round =>
    obtain ⟨k, hk, rfl, hno⟩ := hrel
    have HN := Lib.hid hno
    clear hno
    by_cases hlt : k < xs.length
    · obtain ⟨ad, rfl, hc⟩ := C_cell HR.out k hlt
      cases hodd : oddB (xs.getD k 0)
      · have hodd2 : oddB xs[k] = false := by simpa [List.getD_eq_getElem?_getD, List.getElem?_eq_getElem hlt] using hodd
        clear hodd
        go_wp2_with (go_at_call 46; refine (odd_calls _ _).mono ?_; rintro e w' ⟨rfl, rfl⟩)
        go_round
        case rel => exact ⟨k + 1, by omega, by go_num, any_take_succ hlt HN.out hodd2⟩
        case measure => simp [intOf]; omega
      · have hodd2 : oddB xs[k] = true := by simpa [List.getD_eq_getElem?_getD, List.getElem?_eq_getElem hlt] using hodd
        clear hodd
        go_wp2_with (go_at_call 46; refine (odd_calls _ _).mono ?_; rintro e w' ⟨rfl, rfl⟩)
        go_ret
        exact ⟨k, rfl, by rw [any_of_at hlt hodd2]; simp, rfl⟩
    · go_wp2
      go_ret
      refine ⟨-1, rfl, ?_, rfl⟩
      have h1 := HN.out
      rw [List.take_of_length_le (by omega)] at h1
      rw [h1]; rfl

theorem containsOdd_calls (A : Option Addr) (c : Nat) (xs : List Int) (w : World) (hr : Kd.C (Kd.int .i64) w A xs.length xs) :
    Calls Try.prog 47 #[.slice A xs.length c, .func (.func 46) #[] #[]] w fun e w' => e = .returned (.bool (xs.any oddB)) ∧ w = w' := by
  have HR := Lib.hid hr
  clear hr
  go_enter Try.func47, Try.ntmps47
  go_wp2_with fail
  refine (indexOdd_calls A c xs w HR.out).mono ?_
  rintro e w' ⟨r, rfl, hP, rfl⟩
  have HP := Lib.hid hP
  clear hP
  go_wp2
  go_ret
  exact ⟨by rw [← HP.out]; rfl, rfl⟩

/-- A pair in memory. -/
def PBlk (w : World) (g : Nat) (a : Int) (u0 u1 : Bool) (m0 m1 : Int) (r : Bool) : Prop := w.heap[g]? = some (.cells #[.int .i64 a, .bool u0, .bool u1, .int .i64 m0, .int .i64 m1, .bool r] 48 (0, 0))
section
variable {w w' : World} {g : Nat} {a : Int} {u0 u1 : Bool} {m0 m1 : Int} {r : Bool}
theorem PBlk.lt (h : PBlk w g a u0 u1 m0 m1 r) : g < w.heap.size := by
  rcases Nat.lt_or_ge g w.heap.size with hlt | hge
  · exact hlt
  · unfold PBlk at h; rw [Array.getElem?_eq_none hge] at h; cases h
theorem PBlk.c0 (h : PBlk w g a u0 u1 m0 m1 r) : w.cell? ⟨g, 0, none⟩ = some (.int .i64 a) := (cell_of_row w g 0 _ 48 (0, 0) h).trans rfl
theorem PBlk.c1 (h : PBlk w g a u0 u1 m0 m1 r) : w.cell? ⟨g, 1, none⟩ = some (.bool u0) := (cell_of_row w g 1 _ 48 (0, 0) h).trans rfl
theorem PBlk.c2 (h : PBlk w g a u0 u1 m0 m1 r) : w.cell? ⟨g, 2, none⟩ = some (.bool u1) := (cell_of_row w g 2 _ 48 (0, 0) h).trans rfl
theorem PBlk.c3 (h : PBlk w g a u0 u1 m0 m1 r) : w.cell? ⟨g, 3, none⟩ = some (.int .i64 m0) := (cell_of_row w g 3 _ 48 (0, 0) h).trans rfl
theorem PBlk.c4 (h : PBlk w g a u0 u1 m0 m1 r) : w.cell? ⟨g, 4, none⟩ = some (.int .i64 m1) := (cell_of_row w g 4 _ 48 (0, 0) h).trans rfl
theorem PBlk.c5 (h : PBlk w g a u0 u1 m0 m1 r) : w.cell? ⟨g, 5, none⟩ = some (.bool r) := (cell_of_row w g 5 _ 48 (0, 0) h).trans rfl
theorem PBlk.fr (h : PBlk w g a u0 u1 m0 m1 r) (i : Nat) : w.frozen? ⟨g, i, none⟩ = false := by
  unfold PBlk at h
  simp [World.frozen?, h]
theorem PBlk.alloc (h : PBlk w g a u0 u1 m0 m1 r) (o : Obj) : PBlk (w.alloc o) g a u0 u1 m0 m1 r := (Below.heap_alloc w o g h.lt).trans h
theorem PBlk.below (h : PBlk w g a u0 u1 m0 m1 r) (hb : Below w.heap.size w w') : PBlk w' g a u0 u1 m0 m1 r := (hb.block g h.lt).trans h
theorem PBlk.drewN (h : PBlk w g a u0 u1 m0 m1 r) (n : Nat) : PBlk (w.drewN n) g a u0 u1 m0 m1 r := h
end

theorem eq45_ff (w : World) : (Op.equalIn 10000 45 (.agg #[.bool false, .bool false]) (.agg #[.bool false, .bool false])).run Try.prog w = .ok true w := by kernel_rfl
theorem eq45_ft (w : World) : (Op.equalIn 10000 45 (.agg #[.bool false, .bool true]) (.agg #[.bool false, .bool false])).run Try.prog w = .ok false w := by kernel_rfl
theorem eq45_tf (w : World) : (Op.equalIn 10000 45 (.agg #[.bool true, .bool false]) (.agg #[.bool false, .bool false])).run Try.prog w = .ok false w := by kernel_rfl
theorem eq45_tt (w : World) : (Op.equalIn 10000 45 (.agg #[.bool true, .bool true]) (.agg #[.bool false, .bool false])).run Try.prog w = .ok false w := by kernel_rfl

theorem C_two_of {α : Type} {d : Kd α} (enc : α → Value) (hd : d.sz = 1) (hK : ∀ w x, d.K w x [enc x]) {w : World} {ad : Addr} {x y : α} (h0 : w.cell? ad = some (enc x)) (h1 : w.cell? (ad.add 1) = some (enc y)) : Kd.C d w (some ad) [x, y].length [x, y] := by
  refine ⟨rfl, by simp, fun _ => ⟨ad, rfl, ?_⟩⟩
  intro j p hj
  rw [hd]
  match j, hj with
  | 0, hj =>
    obtain rfl : x = p := by simpa using hj
    refine ⟨[enc x], rfl, hK _ _, ?_⟩
    intro i u hu
    match i, hu with
    | 0, hu =>
      obtain rfl : enc x = u := by simpa using hu
      simpa [Addr.add] using h0
  | 1, hj =>
    obtain rfl : y = p := by simpa using hj
    refine ⟨[enc y], rfl, hK _ _, ?_⟩
    intro i u hu
    match i, hu with
    | 0, hu =>
      obtain rfl : enc y = u := by simpa using hu
      simpa using h1
theorem C_two {w : World} {ad : Addr} {x y : Int} (h0 : w.cell? ad = some (.int .i64 x)) (h1 : w.cell? (ad.add 1) = some (.int .i64 y)) : Kd.C (Kd.int .i64) w (some ad) [x, y].length [x, y] :=
  C_two_of (d := Kd.int .i64) (Value.int .i64) rfl (fun _ _ => rfl) h0 h1
theorem C_twob {w : World} {ad : Addr} {x y : Bool} (h0 : w.cell? ad = some (.bool x)) (h1 : w.cell? (ad.add 1) = some (.bool y)) : Kd.C Kd.bool w (some ad) [x, y].length [x, y] :=
  C_two_of (d := Kd.bool) Value.bool rfl (fun _ _ => rfl) h0 h1

def validB (a : Int) (u0 u1 : Bool) (m0 m1 : Int) (r : Bool) : Bool :=
  !(oddB m0 || oddB m1) && (if !u0 && !u1 then decide (a = -1) && !r else knownB a && (if a = 0 then u0 else u1) && (!(u0 && u1) || decide (m0 = m1)))

set_option maxHeartbeats 1000000 in
theorem valid_odd (g : Nat) (a : Int) (u0 u1 : Bool) (m0 m1 : Int) (r : Bool) (w : World) (hp : PBlk w g a u0 u1 m0 m1 r) (ho : (oddB m0 || oddB m1) = true) :
    Calls Try.prog 44 #[.pointer (some ⟨g, 0, none⟩)] w fun e w' => e = .returned (.bool false) ∧ ∃ n, w' = w.drewN n := by
  have HC : Hid (Kd.C (Kd.int .i64) w (some ⟨g, 3, none⟩) [m0, m1].length [m0, m1]) := Lib.hid (C_two hp.c3 hp.c4)
  have HO : Hid ([m0, m1].any oddB = true) := Lib.hid (by simpa using ho)
  clear hp ho
  go_enter Try.func44, Try.ntmps44
  go_wp2_with fail
  refine (containsOdd_calls _ _ [m0, m1] _ HC.out).mono ?_
  rintro e w' ⟨rfl, rfl⟩
  rw [HO.out]
  go_wp2
  go_ret
  exact ⟨rfl, 0, rfl⟩

set_option maxHeartbeats 1000000 in
theorem valid_down (g : Nat) (a : Int) (m0 m1 : Int) (r : Bool) (w : World) (hp : PBlk w g a false false m0 m1 r) (ho : (oddB m0 || oddB m1) = false) :
    Calls Try.prog 44 #[.pointer (some ⟨g, 0, none⟩)] w fun e w' => e = .returned (.bool (decide (a = -1) && !r)) ∧ ∃ n, w' = w.drewN n := by
  have HC : Hid (Kd.C (Kd.int .i64) w (some ⟨g, 3, none⟩) [m0, m1].length [m0, m1]) := Lib.hid (C_two hp.c3 hp.c4)
  have HO : Hid ([m0, m1].any oddB = false) := Lib.hid (by simpa using ho)
  have e45 := eq45_ff
  have c0 := hp.c0; have c1 := hp.c1; have c2 := hp.c2; have c3 := hp.c3; have c4 := hp.c4; have c5 := hp.c5
  clear hp ho
  by_cases ha : a = -1
  · subst ha
    go_enter Try.func44, Try.ntmps44
    go_wp2_with fail
    refine (containsOdd_calls _ _ [m0, m1] _ HC.out).mono ?_
    rintro e w' ⟨rfl, rfl⟩
    rw [HO.out]
    go_wp2
    go_ret
    exact ⟨by simp, 0, rfl⟩
  · go_enter Try.func44, Try.ntmps44
    go_wp2_with fail
    refine (containsOdd_calls _ _ [m0, m1] _ HC.out).mono ?_
    rintro e w' ⟨rfl, rfl⟩
    rw [HO.out]
    go_wp2
    go_ret
    exact ⟨by simp [ha], 0, rfl⟩

set_option maxHeartbeats 2000000 in
theorem valid_tf (g : Nat) (a : Int) (m0 m1 : Int) (r : Bool) (w : World) (hp : PBlk w g a true false m0 m1 r) (ho : (oddB m0 || oddB m1) = false) :
    Calls Try.prog 44 #[.pointer (some ⟨g, 0, none⟩)] w fun e w' => e = .returned (.bool (decide (a = 0))) ∧ ∃ n, w' = w.drewN n := by
  have HC : Hid (Kd.C (Kd.int .i64) w (some ⟨g, 3, none⟩) [m0, m1].length [m0, m1]) := Lib.hid (C_two hp.c3 hp.c4)
  have HO : Hid ([m0, m1].any oddB = false) := Lib.hid (by simpa using ho)
  have e45 := eq45_tf
  have c0 := hp.c0; have c1 := hp.c1; have c2 := hp.c2; have c3 := hp.c3; have c4 := hp.c4; have c5 := hp.c5
  clear hp ho
  by_cases ha : a = 0
  · subst ha
    go_enter Try.func44, Try.ntmps44
    go_wp2_with fail
    refine (containsOdd_calls _ _ [m0, m1] _ HC.out).mono ?_
    rintro e w' ⟨rfl, rfl⟩
    rw [HO.out]
    go_wp2_with fail
    go_quiet ((go_at_call 35; exact Calls.quiet_of_same (known_is _ _ true _ rfl)))
    go_wp2
    go_ret
    exact ⟨by simp, _, rfl⟩
  · by_cases hb : a = 1
    · subst hb
      clear ha
      go_enter Try.func44, Try.ntmps44
      go_wp2_with fail
      refine (containsOdd_calls _ _ [m0, m1] _ HC.out).mono ?_
      rintro e w' ⟨rfl, rfl⟩
      rw [HO.out]
      go_wp2_with fail
      go_quiet ((go_at_call 35; exact Calls.quiet_of_same (known_is _ _ true _ rfl)))
      go_wp2
      go_ret
      exact ⟨by simp, _, rfl⟩
    · have hk : knownB a = false := by simp [knownB]; omega
      have HK := Lib.hid hk
      have HA := Lib.hid ha
      have HB := Lib.hid hb
      clear hk ha hb
      go_enter Try.func44, Try.ntmps44
      go_wp2_with fail
      refine (containsOdd_calls _ _ [m0, m1] _ HC.out).mono ?_
      rintro e w' ⟨rfl, rfl⟩
      rw [HO.out]
      go_wp2_with fail
      go_quiet ((go_at_call 35; exact Calls.quiet_of_same (known_is _ _ false _ HK.out)))
      go_wp2
      go_ret
      exact ⟨by have := HA.out; have := HB.out; simp [*], _, rfl⟩

set_option maxHeartbeats 2000000 in
theorem valid_ft (g : Nat) (a : Int) (m0 m1 : Int) (r : Bool) (w : World) (hp : PBlk w g a false true m0 m1 r) (ho : (oddB m0 || oddB m1) = false) :
    Calls Try.prog 44 #[.pointer (some ⟨g, 0, none⟩)] w fun e w' => e = .returned (.bool (decide (a = 1))) ∧ ∃ n, w' = w.drewN n := by
  have HC : Hid (Kd.C (Kd.int .i64) w (some ⟨g, 3, none⟩) [m0, m1].length [m0, m1]) := Lib.hid (C_two hp.c3 hp.c4)
  have HO : Hid ([m0, m1].any oddB = false) := Lib.hid (by simpa using ho)
  have e45 := eq45_ft
  have c0 := hp.c0; have c1 := hp.c1; have c2 := hp.c2; have c3 := hp.c3; have c4 := hp.c4; have c5 := hp.c5
  clear hp ho
  by_cases ha : a = 0
  · subst ha
    go_enter Try.func44, Try.ntmps44
    go_wp2_with fail
    refine (containsOdd_calls _ _ [m0, m1] _ HC.out).mono ?_
    rintro e w' ⟨rfl, rfl⟩
    rw [HO.out]
    go_wp2_with fail
    go_quiet ((go_at_call 35; exact Calls.quiet_of_same (known_is _ _ true _ rfl)))
    go_wp2
    go_ret
    exact ⟨by simp, _, rfl⟩
  · by_cases hb : a = 1
    · subst hb
      clear ha
      go_enter Try.func44, Try.ntmps44
      go_wp2_with fail
      refine (containsOdd_calls _ _ [m0, m1] _ HC.out).mono ?_
      rintro e w' ⟨rfl, rfl⟩
      rw [HO.out]
      go_wp2_with fail
      go_quiet ((go_at_call 35; exact Calls.quiet_of_same (known_is _ _ true _ rfl)))
      go_wp2
      go_ret
      exact ⟨by simp, _, rfl⟩
    · have hk : knownB a = false := by simp [knownB]; omega
      have HK := Lib.hid hk
      have HA := Lib.hid ha
      have HB := Lib.hid hb
      clear hk ha hb
      go_enter Try.func44, Try.ntmps44
      go_wp2_with fail
      refine (containsOdd_calls _ _ [m0, m1] _ HC.out).mono ?_
      rintro e w' ⟨rfl, rfl⟩
      rw [HO.out]
      go_wp2_with fail
      go_quiet ((go_at_call 35; exact Calls.quiet_of_same (known_is _ _ false _ HK.out)))
      go_wp2
      go_ret
      exact ⟨by have := HA.out; have := HB.out; simp [*], _, rfl⟩

set_option maxHeartbeats 2000000 in
theorem valid_tte (g : Nat) (a : Int) (m0 m1 : Int) (r : Bool) (w : World) (hp : PBlk w g a true true m0 m1 r) (ho : (oddB m0 || oddB m1) = false) (hm : (m0 == m1) = true) :
    Calls Try.prog 44 #[.pointer (some ⟨g, 0, none⟩)] w fun e w' => e = .returned (.bool (knownB a)) ∧ ∃ n, w' = w.drewN n := by
  have HC : Hid (Kd.C (Kd.int .i64) w (some ⟨g, 3, none⟩) [m0, m1].length [m0, m1]) := Lib.hid (C_two hp.c3 hp.c4)
  have HO : Hid ([m0, m1].any oddB = false) := Lib.hid (by simpa using ho)
  have e45 := eq45_tt
  have c0 := hp.c0; have c1 := hp.c1; have c2 := hp.c2; have c3 := hp.c3; have c4 := hp.c4; have c5 := hp.c5
  clear hp ho
  by_cases ha : a = 0
  · subst ha
    go_enter Try.func44, Try.ntmps44
    go_wp2_with fail
    refine (containsOdd_calls _ _ [m0, m1] _ HC.out).mono ?_
    rintro e w' ⟨rfl, rfl⟩
    rw [HO.out]
    go_wp2_with fail
    go_quiet ((go_at_call 35; exact Calls.quiet_of_same (known_is _ _ true _ rfl)))
    go_wp2
    go_ret
    exact ⟨by simp [knownB], _, rfl⟩
  · by_cases hb : a = 1
    · subst hb
      clear ha
      go_enter Try.func44, Try.ntmps44
      go_wp2_with fail
      refine (containsOdd_calls _ _ [m0, m1] _ HC.out).mono ?_
      rintro e w' ⟨rfl, rfl⟩
      rw [HO.out]
      go_wp2_with fail
      go_quiet ((go_at_call 35; exact Calls.quiet_of_same (known_is _ _ true _ rfl)))
      go_wp2
      go_ret
      exact ⟨by simp [knownB], _, rfl⟩
    · have hk : knownB a = false := by simp [knownB]; omega
      have HK := Lib.hid hk
      have HA := Lib.hid ha
      have HB := Lib.hid hb
      clear hk ha hb
      go_enter Try.func44, Try.ntmps44
      go_wp2_with fail
      refine (containsOdd_calls _ _ [m0, m1] _ HC.out).mono ?_
      rintro e w' ⟨rfl, rfl⟩
      rw [HO.out]
      go_wp2_with fail
      go_quiet ((go_at_call 35; exact Calls.quiet_of_same (known_is _ _ false _ HK.out)))
      go_wp2
      go_ret
      exact ⟨by have := HK.out; simp [*], _, rfl⟩

set_option maxHeartbeats 2000000 in
theorem valid_ttn (g : Nat) (a : Int) (m0 m1 : Int) (r : Bool) (w : World) (hp : PBlk w g a true true m0 m1 r) (ho : (oddB m0 || oddB m1) = false) (hm : (m0 == m1) = false) :
    Calls Try.prog 44 #[.pointer (some ⟨g, 0, none⟩)] w fun e w' => e = .returned (.bool (false)) ∧ ∃ n, w' = w.drewN n := by
  have HC : Hid (Kd.C (Kd.int .i64) w (some ⟨g, 3, none⟩) [m0, m1].length [m0, m1]) := Lib.hid (C_two hp.c3 hp.c4)
  have HO : Hid ([m0, m1].any oddB = false) := Lib.hid (by simpa using ho)
  have e45 := eq45_tt
  have c0 := hp.c0; have c1 := hp.c1; have c2 := hp.c2; have c3 := hp.c3; have c4 := hp.c4; have c5 := hp.c5
  clear hp ho
  by_cases ha : a = 0
  · subst ha
    go_enter Try.func44, Try.ntmps44
    go_wp2_with fail
    refine (containsOdd_calls _ _ [m0, m1] _ HC.out).mono ?_
    rintro e w' ⟨rfl, rfl⟩
    rw [HO.out]
    go_wp2_with fail
    go_quiet ((go_at_call 35; exact Calls.quiet_of_same (known_is _ _ true _ rfl)))
    go_wp2
    go_ret
    exact ⟨by simp, _, rfl⟩
  · by_cases hb : a = 1
    · subst hb
      clear ha
      go_enter Try.func44, Try.ntmps44
      go_wp2_with fail
      refine (containsOdd_calls _ _ [m0, m1] _ HC.out).mono ?_
      rintro e w' ⟨rfl, rfl⟩
      rw [HO.out]
      go_wp2_with fail
      go_quiet ((go_at_call 35; exact Calls.quiet_of_same (known_is _ _ true _ rfl)))
      go_wp2
      go_ret
      exact ⟨by simp, _, rfl⟩
    · have hk : knownB a = false := by simp [knownB]; omega
      have HK := Lib.hid hk
      have HA := Lib.hid ha
      have HB := Lib.hid hb
      clear hk ha hb
      go_enter Try.func44, Try.ntmps44
      go_wp2_with fail
      refine (containsOdd_calls _ _ [m0, m1] _ HC.out).mono ?_
      rintro e w' ⟨rfl, rfl⟩
      rw [HO.out]
      go_wp2_with fail
      go_quiet ((go_at_call 35; exact Calls.quiet_of_same (known_is _ _ false _ HK.out)))
      go_wp2
      go_ret
      exact ⟨by have := HK.out; simp [*], _, rfl⟩

theorem valid_calls (g : Nat) (a : Int) (u0 u1 : Bool) (m0 m1 : Int) (r : Bool) (w : World) (hp : PBlk w g a u0 u1 m0 m1 r) :
    Calls Try.prog 44 #[.pointer (some ⟨g, 0, none⟩)] w fun e w' => e = .returned (.bool (validB a u0 u1 m0 m1 r)) ∧ ∃ n, w' = w.drewN n := by
  unfold validB
  cases ho : (oddB m0 || oddB m1)
  · cases u0 <;> cases u1
    · exact (valid_down g a m0 m1 r w hp ho).mono fun _ _ ⟨h1, h2⟩ => ⟨by rw [h1]; simp, h2⟩
    · refine (valid_ft g a m0 m1 r w hp ho).mono fun _ _ ⟨h1, h2⟩ => ⟨by rw [h1]; congr 2; by_cases h : a = 0 <;> by_cases h' : a = 1 <;> simp [h, h', knownB] <;> omega, h2⟩
    · refine (valid_tf g a m0 m1 r w hp ho).mono fun _ _ ⟨h1, h2⟩ => ⟨by rw [h1]; congr 2; by_cases h : a = 0 <;> simp [h, knownB], h2⟩
    · cases hm : (m0 == m1)
      · have : ¬ m0 = m1 := by simpa using hm
        exact (valid_ttn g a m0 m1 r w hp ho hm).mono fun _ _ ⟨h1, h2⟩ => ⟨by rw [h1]; simp [this], h2⟩
      · have : m0 = m1 := by simpa using hm
        exact (valid_tte g a m0 m1 r w hp ho hm).mono fun _ _ ⟨h1, h2⟩ => ⟨by rw [h1]; simp [this], h2⟩
  · exact (valid_odd g a u0 u1 m0 m1 r w hp ho).mono fun _ _ ⟨h1, h2⟩ => ⟨by rw [h1]; simp, h2⟩
end Go.Proofs.Ytfjboaanpiceaaa.P
