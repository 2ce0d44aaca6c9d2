import Derived.Test.YtbfhohpbldadbaaExtA
import Derived.Lib.OthersKept
import Derived.Lib.TrimU
import Derived.Laws.RangeAny
namespace Go.Proofs.Ytbfhohpbldadbaa.P
open Go.RowKit Go.Proofs.YtbfhohpbldadbaaW.PrintWords Go.Proofs.YtbfhohpbldadbaaW.PrintLast Go.Proofs.YtbfhohpbldadbaaW.PrintMore
set_option linter.unusedVariables false
set_option linter.unusedSimpArgs false

/-- Is the byte at i a digit? -/
def dgB (s : ByteArray) (i : Nat) : Bool := decide (48 ≤ bt s i) && decide (bt s i ≤ 57)
def digB (s : ByteArray) : Bool := (List.range s.size).all (dgB s)
def numB (s : ByteArray) : Bool := decide (1 ≤ s.size) && decide (s.size ≤ 15) && digB s

def otherB (r : Int) : Bool := decide (r < 48) || decide (57 < r)
theorem other_calls (r : Int) (w : World) : Calls Try.prog 99 #[.int .i32 r] w fun e w' => e = .returned (.bool (otherB r)) ∧ w = w' := by
  by_cases h : r < 48
  · have hh : otherB r = true := by simp [otherB, h]
    rw [hh]
    go_enter Try.func99, Try.ntmps99
    go_wp2
    go_ret
    exact ⟨rfl, rfl⟩
  · by_cases h2 : 57 < r
    · have hh : otherB r = true := by simp [otherB, h2]
      rw [hh]
      go_enter Try.func99, Try.ntmps99
      go_wp2
      go_ret
      exact ⟨rfl, rfl⟩
    · have hh : otherB r = false := by simp [otherB, h, h2]
      rw [hh]
      go_enter Try.func99, Try.ntmps99
      go_wp2
      go_ret
      exact ⟨rfl, rfl⟩
theorem other_is (r : Int) (b : Bool) (w : World) (h : otherB r = b) : Calls Try.prog 99 #[.int .i32 r] w fun e w' => e = .returned (.bool b) ∧ w = w' := by
  subst h; exact other_calls r w

set_option maxHeartbeats 2000000 in
set_option maxRecDepth 1000000 in
theorem indexR (s : ByteArray) (w : World) :
    Calls Try.prog 103 #[.string s, .func (.func 99) #[] #[], .bool true] w (SomeIdx w fun r => decide (0 ≤ r) = !digB s) := by
  go_enter Try.func103, Try.ntmps103
  go_wp2
  go_loopg [] s.size (fun gf wx => ∃ pos : Nat, wx.heap[w.heap.size]? = some (.stringIter s pos) ∧ Below w.heap.size w wx ∧ (∀ i, i < pos → dgB s i = true) ∧ s.size ≤ pos + gf ∧ pos ≤ s.size)
  case atStart => exact ⟨0, World.iter_heap w s 0, (Below.refl _ w).alloc (Nat.le_refl _) _, fun i hi => absurd hi (by omega), by omega, Nat.zero_le _⟩
  case round =>
    obtain ⟨pos, hit, hbw, hall, hfu, hle⟩ := hrel
    by_cases hps : pos < s.size
    · obtain ⟨g', rfl⟩ : ∃ g', gk = g' + 1 := ⟨gk - 1, by omega⟩
      have hnx : ∀ ty, (Instr.next (.pointer (some ⟨w.heap.size, 0, none⟩)) true ty).run Try.prog wr = _ := fun ty => Lib.run_next_any_at wr w.heap.size s pos ty hit hps
      obtain ⟨R, hR⟩ : ∃ R, (Utf8.decode s pos).1 = R := ⟨_, rfl⟩
      obtain ⟨K, hK⟩ : ∃ K, (Utf8.decode s pos).2 = K := ⟨_, rfl⟩
      rw [hR, hK] at hnx
      have hit2 := Lib.iterAt_heap wr w.heap.size s pos (pos + K) hit
      have hbw2 := Lib.below_iterAt hbw (k := w.heap.size) (Nat.le_refl _) s (pos + K)
      obtain ⟨W, hWd⟩ : ∃ W, wr.iterAt w.heap.size s (pos + K) = W := ⟨_, rfl⟩
      rw [hWd] at hnx hit2 hbw2
      have HA := Lib.hid hall
      have HR := Lib.hid hR
      have HK := Lib.hid hK
      have HB2 := Lib.hid hbw2
      have HI2 := Lib.hid hit2
      clear hall hbw2 hbw hR hK hit2 hit hWd
      have hbt : bt s (pos : Int) = ((s[pos]'hps).toNat : Int) := by simp [bt, hps]
      by_cases hd : dgB s pos = true
      · have hd2 : 48 ≤ bt s (pos : Int) ∧ bt s (pos : Int) ≤ 57 := by simpa [dgB] using hd
        have hlt : (s[pos]'hps).toNat < 128 := by omega
        have hdec := decode_ascii s pos hps hlt
        have hRv : R = (s[pos]'hps).toNat := by rw [← HR.out, hdec]
        have hKv : K = 1 := by rw [← HK.out, hdec]
        have ho : otherB (R : Int) = false := by
          rw [hRv]; simp [otherB]; omega
        have HO := Lib.hid ho
        have HKv := Lib.hid hKv
        have HD := Lib.hid hd
        clear ho hRv hKv hdec hd hd2 hbt hlt
        go_wp2_with (go_at_call 99; refine (other_is _ false _ HO.out).mono ?_; rintro e W' ⟨rfl, rfl⟩)
        go_roundg g'
        case measure => omega
        case rel =>
          refine ⟨pos + K, HI2.out, HB2.out, ?_, by have := HKv.out; omega, by have := HKv.out; omega⟩
          intro i hi
          by_cases he : i = pos
          · subst he; exact HD.out
          · exact HA.out i (by have := HKv.out; omega)
      · have ho : otherB (R : Int) = true := by
          by_cases hlt : (s[pos]'hps).toNat < 128
          · have hRv : R = (s[pos]'hps).toNat := by rw [← HR.out, decode_ascii s pos hps hlt]
            rw [hRv, ← hbt]
            simp [dgB] at hd
            simp [otherB]; omega
          · have := (decode_high s pos hps (by omega)).1
            rw [HR.out] at this
            simp [otherB]; omega
        have HO := Lib.hid ho
        have HD := Lib.hid hd
        clear ho hd hbt
        go_wp2_with (go_at_call 99; refine (other_is _ true _ HO.out).mono ?_; rintro e W' ⟨rfl, rfl⟩)
        go_ret
        refine ⟨pos, rfl, ?_, HB2.out⟩
        have : digB s = false := by
          cases h : digB s
          · rfl
          · exact absurd (List.all_eq_true.1 h pos (List.mem_range.2 hps)) HD.out
        rw [this]; simp
    · have hnx : ∀ ty, (Instr.next (.pointer (some ⟨w.heap.size, 0, none⟩)) true ty).run Try.prog wr = _ := fun ty => Lib.run_next_end_at wr w.heap.size s pos ty hit hps
      have HA := Lib.hid hall
      have HB := Lib.hid hbw
      clear hall hbw hit
      go_wp2
      go_ret
      refine ⟨-1, rfl, ?_, HB.out⟩
      have : digB s = true := List.all_eq_true.2 fun i hi => HA.out i (by have := List.mem_range.1 hi; omega)
      rw [this]; rfl
theorem indexF (s : ByteArray) (w : World) :
    Calls Try.prog 102 #[.string s, .func (.func 99) #[] #[]] w (SomeIdx w fun r => decide (0 ≤ r) = !digB s) := by
  go_enter Try.func102, Try.ntmps102
  go_wp2_with (go_at_call 103; refine (indexR s w).mono ?_; rintro e w' ⟨r, rfl, hQ, hb⟩; have HQ := Lib.hid hQ; have HB := Lib.hid hb; clear hQ hb)
  go_ret
  exact ⟨r, rfl, HQ.out, HB.out⟩
theorem containsR (s : ByteArray) (w : World) :
    Calls Try.prog 100 #[.string s, .func (.func 99) #[] #[]] w fun e w' => e = .returned (.bool (!digB s)) ∧ Below w.heap.size w w' := by
  go_enter Try.func100, Try.ntmps100
  go_wp2_with (go_at_call 102; refine (indexF s w).mono ?_; rintro e w' ⟨r, rfl, hQ, hb⟩; have HQ := Lib.hid hQ; have HB := Lib.hid hb; clear hQ hb)
  go_ret
  exact ⟨by rw [← HQ.out]; rfl, HB.out⟩
theorem only_calls (s : ByteArray) (w : World) :
    Calls Try.prog 95 #[.string s, .int .i64 1, .int .i64 15] w fun e w' => e = .returned (.bool (numB s)) ∧ Below w.heap.size w w' := by
  by_cases h1 : 1 ≤ s.size
  · by_cases h2 : s.size ≤ 15
    · have hn : numB s = digB s := by simp [numB, h1, h2]
      rw [hn]
      go_enter Try.func95, Try.ntmps95
      go_wp2_with (go_at_call 100; refine (containsR s w).mono ?_; rintro e w' ⟨rfl, hb⟩; have HB := Lib.hid hb; clear hb)
      go_ret
      exact ⟨by simp, HB.out⟩
    · have hn : numB s = false := by simp [numB, h2]
      rw [hn]
      go_enter Try.func95, Try.ntmps95
      go_wp2_with fail
      go_ret
      exact ⟨rfl, Below.refl _ _⟩
  · have hn : numB s = false := by simp [numB, h1]
    rw [hn]
    go_enter Try.func95, Try.ntmps95
    go_wp2_with fail
    go_ret
    exact ⟨rfl, Below.refl _ _⟩
/-- digits.Valid. -/
theorem dvalid_calls (s : ByteArray) (w : World) :
    Calls Try.prog 84 #[.string s] w fun e w' => e = .returned (.bool (numB s)) ∧ Below w.heap.size w w' := by
  go_enter Try.func84, Try.ntmps84
  go_wp2_with (go_at_call 95; refine (only_calls s w).mono ?_; rintro e w' ⟨rfl, hb⟩; have HB := Lib.hid hb; clear hb)
  go_ret
  exact ⟨rfl, HB.out⟩

/-! ### meter.inTime -/
def oddT (n : Int) : Bool := decide (n < 0) || decide (1099511627776 < n)
theorem oddT_calls (n : Int) (w : World) : Calls Try.prog 79 #[.int .i64 n] w fun e w' => e = .returned (.bool (oddT n)) ∧ Below w.heap.size w w' := by
  by_cases h : n < 0
  · have hh : oddT n = true := by simp [oddT, h]
    rw [hh]
    go_enter Try.func79, Try.ntmps79
    go_wp2
    go_ret
    exact ⟨rfl, Below.refl _ _⟩
  · by_cases h2 : 1099511627776 < n
    · have hh : oddT n = true := by simp [oddT, h2]
      rw [hh]
      go_enter Try.func79, Try.ntmps79
      go_wp2
      go_ret
      exact ⟨rfl, Below.refl _ _⟩
    · have hh : oddT n = false := by simp [oddT, h, h2]
      rw [hh]
      go_enter Try.func79, Try.ntmps79
      go_wp2
      go_ret
      exact ⟨rfl, Below.refl _ _⟩
theorem enters79 : Enters 79 := fun _ _ => by kernel_rfl
theorem inTime_calls (A : Option Addr) (c : Nat) (xs : List Int) (w : World) (hr : Kd.C (Kd.int .i64) w A xs.length xs) :
    Calls Try.prog 50 #[.slice A xs.length c] w fun e w' => e = .returned (.bool (!xs.any oddT)) ∧ Below w.heap.size w w' := by
  have HR := Lib.hid hr
  clear hr
  go_enter Try.func50, Try.ntmps50
  go_wp2_with fail
  refine (containsI 79 #[] enters79 A c xs oddT w HR.out (fun m _ W _ => by simpa using oddT_calls m W)).mono ?_
  rintro e w' ⟨rfl, hb⟩
  have HB := Lib.hid hb
  clear hb
  go_wp2_with fail
  go_ret
  exact ⟨rfl, HB.out⟩
end Go.Proofs.Ytbfhohpbldadbaa.P
