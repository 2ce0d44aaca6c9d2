import Derived.Test.YtfjboaanpiceaaaExtB
namespace Go.Proofs.Ytfjboaanpiceaaa.P
open Go.RowKit Go.Proofs.YtfjboaanpiceaaaW.PrintWords Go.Proofs.YtfjboaanpiceaaaW.PrintLast Go.Proofs.YtfjboaanpiceaaaW.PrintMore
set_option linter.unusedVariables false
set_option linter.unusedSimpArgs false

/-! ### what the operations ask first -/
theorem require_is (b : Bool) (c : Int) (w : World) (h : (if b then 0 else 330) = c) : Calls Try.prog 28 #[.bool b] w fun e w' => e = .returned (.int .i64 c) ∧ w' = w := by
  subst h
  exact (require_calls b w).mono fun _ _ ⟨h1, h2⟩ => ⟨h1, h2.symm⟩

set_option maxHeartbeats 1000000 in
theorem may27_n (g : Nat) (u0 u1 : Bool) (m0 m1 : Int) (r : Bool) (w : World) (hp : PBlk w g (-1) u0 u1 m0 m1 r) :
    Calls Try.prog 27 #[.pointer (some ⟨g, 0, none⟩)] w fun e w' => e = .returned (.int .i64 330) ∧ ∃ n, w' = w.drewN n := by
  have c0 := hp.c0; have c3 := hp.c3; have c4 := hp.c4
  clear hp
  go_enter Try.func27, Try.ntmps27
  go_wp2_with fail
  go_quiet (fail)
  go_wp2_with (go_at_call 28; refine (require_is _ 330 _ rfl).mono ?_; rintro e w' ⟨rfl, rfl⟩)
  go_ret
  exact ⟨rfl, _, rfl⟩

set_option maxHeartbeats 1000000 in
theorem may27_0 (g : Nat) (u0 u1 : Bool) (m0 m1 : Int) (r : Bool) (w : World) (hp : PBlk w g 0 u0 u1 m0 m1 r) :
    Calls Try.prog 27 #[.pointer (some ⟨g, 0, none⟩)] w fun e w' => e = .returned (.int .i64 (if m0 = 1099511627776 then 2 else 0)) ∧ ∃ n, w' = w.drewN n := by
  by_cases hm : m0 = 1099511627776
  · subst hm
    have c0 := hp.c0; have c3 := hp.c3; have c4 := hp.c4
    clear hp
    go_enter Try.func27, Try.ntmps27
    go_wp2_with fail
    go_quiet (fail)
    go_wp2
    go_ret
    exact ⟨rfl, _, rfl⟩
  · have hb : (m0 == 1099511627776) = false := by simpa using hm
    have c0 := hp.c0; have c3 := hp.c3; have c4 := hp.c4
    have HM := Lib.hid hm
    clear hp hm
    go_enter Try.func27, Try.ntmps27
    go_wp2_with fail
    go_quiet (fail)
    go_wp2_with (go_at_call 28; refine (require_is _ 0 _ rfl).mono ?_; rintro e w' ⟨rfl, rfl⟩)
    go_ret
    exact ⟨rfl, _, rfl⟩

set_option maxHeartbeats 1000000 in
theorem may27_1 (g : Nat) (u0 u1 : Bool) (m0 m1 : Int) (r : Bool) (w : World) (hp : PBlk w g 1 u0 u1 m0 m1 r) :
    Calls Try.prog 27 #[.pointer (some ⟨g, 0, none⟩)] w fun e w' => e = .returned (.int .i64 (if m1 = 1099511627776 then 2 else 0)) ∧ ∃ n, w' = w.drewN n := by
  by_cases hm : m1 = 1099511627776
  · subst hm
    have c0 := hp.c0; have c3 := hp.c3; have c4 := hp.c4
    clear hp
    go_enter Try.func27, Try.ntmps27
    go_wp2_with fail
    go_quiet (fail)
    go_wp2
    go_ret
    exact ⟨rfl, _, rfl⟩
  · have hb : (m1 == 1099511627776) = false := by simpa using hm
    have c0 := hp.c0; have c3 := hp.c3; have c4 := hp.c4
    have HM := Lib.hid hm
    clear hp hm
    go_enter Try.func27, Try.ntmps27
    go_wp2_with fail
    go_quiet (fail)
    go_wp2_with (go_at_call 28; refine (require_is _ 0 _ rfl).mono ?_; rintro e w' ⟨rfl, rfl⟩)
    go_ret
    exact ⟨rfl, _, rfl⟩

theorem may37 (g : Nat) (a : Int) (u0 u1 : Bool) (m0 m1 : Int) (r : Bool) (w : World) (hp : PBlk w g a u0 u1 m0 m1 r) :
    Calls Try.prog 37 #[.pointer (some ⟨g, 0, none⟩)] w fun e w' => e = .returned (.int .i64 (if decide (0 ≤ a) && !r then 0 else 330)) ∧ ∃ n, w' = w.drewN n := by
  have c0 := hp.c0; have c5 := hp.c5
  clear hp
  by_cases ha : 0 ≤ a
  · cases r
    · rw [show (if (decide (0 ≤ a) && !false) = true then 0 else 330) = (0 : Int) from by simp [ha]]
      go_enter Try.func37, Try.ntmps37
      go_wp2_with (go_at_call 28; refine (require_is _ 0 _ rfl).mono ?_; rintro e w' ⟨rfl, rfl⟩)
      go_ret
      exact ⟨rfl, 0, rfl⟩
    · rw [show (if (decide (0 ≤ a) && !true) = true then 0 else 330) = (330 : Int) from by simp]
      go_enter Try.func37, Try.ntmps37
      go_wp2_with (go_at_call 28; refine (require_is _ 330 _ rfl).mono ?_; rintro e w' ⟨rfl, rfl⟩)
      go_ret
      exact ⟨rfl, 0, rfl⟩
  · have hd : decide (0 ≤ a) = false := by simpa using ha
    rw [show (if (decide (0 ≤ a) && !r) = true then 0 else 330) = (330 : Int) from by simp [hd]]
    go_enter Try.func37, Try.ntmps37
    go_wp2_with (go_at_call 28; refine (require_is _ 330 _ rfl).mono ?_; rintro e w' ⟨rfl, rfl⟩)
    go_ret
    exact ⟨rfl, 0, rfl⟩

def up (u0 u1 : Bool) (i : Int) : Bool := if i = 0 then u0 else u1

set_option maxHeartbeats 1000000 in
theorem may34 (g gp : Nat) (a i : Int) (u0 u1 : Bool) (m0 m1 : Int) (r : Bool) (w : World) (hp : PBlk w g a u0 u1 m0 m1 r) (hi : w.cell? ⟨gp, 0, none⟩ = some (.int .i64 i)) :
    Calls Try.prog 34 #[.pointer (some ⟨g, 0, none⟩), .pointer (some ⟨gp, 0, none⟩)] w fun e w' => e = .returned (.int .i64 (if knownB i && up u0 u1 i then 0 else 330)) ∧ ∃ n, w' = w.drewN n := by
  have c1 := hp.c1; have c2 := hp.c2
  clear hp
  by_cases hk : knownB i = true
  · have hi2 : i = 0 ∨ i = 1 := by simp [knownB] at hk; omega
    clear hk
    rcases hi2 with rfl | rfl
    · cases u0
      · rw [show (if (knownB 0 && up false u1 0) = true then 0 else 330) = (330 : Int) from by simp [knownB, up]]
        go_enter Try.func34, Try.ntmps34
        go_wp2_with fail
        go_quiet ((first | (go_at_call 35; exact Calls.quiet_of_same (known_is _ _ true _ rfl)) | (go_at_call 28; exact Calls.quiet_of_same (require_is _ 330 _ rfl))))
        go_wp2
        go_ret
        exact ⟨rfl, _, rfl⟩
      · rw [show (if (knownB 0 && up true u1 0) = true then 0 else 330) = (0 : Int) from by simp [knownB, up]]
        go_enter Try.func34, Try.ntmps34
        go_wp2_with fail
        go_quiet ((first | (go_at_call 35; exact Calls.quiet_of_same (known_is _ _ true _ rfl)) | (go_at_call 28; exact Calls.quiet_of_same (require_is _ 0 _ rfl))))
        go_wp2
        go_ret
        exact ⟨rfl, _, rfl⟩
    · cases u1
      · rw [show (if (knownB 1 && up u0 false 1) = true then 0 else 330) = (330 : Int) from by simp [knownB, up]]
        go_enter Try.func34, Try.ntmps34
        go_wp2_with fail
        go_quiet ((first | (go_at_call 35; exact Calls.quiet_of_same (known_is _ _ true _ rfl)) | (go_at_call 28; exact Calls.quiet_of_same (require_is _ 330 _ rfl))))
        go_wp2
        go_ret
        exact ⟨rfl, _, rfl⟩
      · rw [show (if (knownB 1 && up u0 true 1) = true then 0 else 330) = (0 : Int) from by simp [knownB, up]]
        go_enter Try.func34, Try.ntmps34
        go_wp2_with fail
        go_quiet ((first | (go_at_call 35; exact Calls.quiet_of_same (known_is _ _ true _ rfl)) | (go_at_call 28; exact Calls.quiet_of_same (require_is _ 0 _ rfl))))
        go_wp2
        go_ret
        exact ⟨rfl, _, rfl⟩
  · have hk2 : knownB i = false := by simpa using hk
    have HK := Lib.hid hk2
    rw [show (if (knownB i && up u0 u1 i) = true then 0 else 330) = (330 : Int) from by simp [hk2]]
    clear hk hk2
    go_enter Try.func34, Try.ntmps34
    go_wp2_with fail
    go_quiet ((first | (go_at_call 35; exact Calls.quiet_of_same (known_is _ _ false _ HK.out)) | (go_at_call 28; exact Calls.quiet_of_same (require_is _ 330 _ rfl))))
    go_wp2
    go_ret
    exact ⟨rfl, _, rfl⟩

set_option maxHeartbeats 1000000 in
theorem may40 (g gp : Nat) (a i : Int) (u0 u1 : Bool) (m0 m1 : Int) (r : Bool) (w : World) (hp : PBlk w g a u0 u1 m0 m1 r) (hi : w.cell? ⟨gp, 0, none⟩ = some (.int .i64 i)) :
    Calls Try.prog 40 #[.pointer (some ⟨g, 0, none⟩), .pointer (some ⟨gp, 0, none⟩)] w fun e w' => e = .returned (.int .i64 (if knownB i && !up u0 u1 i then 0 else 330)) ∧ ∃ n, w' = w.drewN n := by
  have c1 := hp.c1; have c2 := hp.c2
  clear hp
  by_cases hk : knownB i = true
  · have hi2 : i = 0 ∨ i = 1 := by simp [knownB] at hk; omega
    clear hk
    rcases hi2 with rfl | rfl
    · cases u0
      · rw [show (if (knownB 0 && !up false u1 0) = true then 0 else 330) = (0 : Int) from by simp [knownB, up]]
        go_enter Try.func40, Try.ntmps40
        go_wp2_with fail
        go_quiet ((first | (go_at_call 35; exact Calls.quiet_of_same (known_is _ _ true _ rfl)) | (go_at_call 28; exact Calls.quiet_of_same (require_is _ 0 _ rfl))))
        go_wp2
        go_ret
        exact ⟨rfl, _, rfl⟩
      · rw [show (if (knownB 0 && !up true u1 0) = true then 0 else 330) = (330 : Int) from by simp [knownB, up]]
        go_enter Try.func40, Try.ntmps40
        go_wp2_with fail
        go_quiet ((first | (go_at_call 35; exact Calls.quiet_of_same (known_is _ _ true _ rfl)) | (go_at_call 28; exact Calls.quiet_of_same (require_is _ 330 _ rfl))))
        go_wp2
        go_ret
        exact ⟨rfl, _, rfl⟩
    · cases u1
      · rw [show (if (knownB 1 && !up u0 false 1) = true then 0 else 330) = (0 : Int) from by simp [knownB, up]]
        go_enter Try.func40, Try.ntmps40
        go_wp2_with fail
        go_quiet ((first | (go_at_call 35; exact Calls.quiet_of_same (known_is _ _ true _ rfl)) | (go_at_call 28; exact Calls.quiet_of_same (require_is _ 0 _ rfl))))
        go_wp2
        go_ret
        exact ⟨rfl, _, rfl⟩
      · rw [show (if (knownB 1 && !up u0 true 1) = true then 0 else 330) = (330 : Int) from by simp [knownB, up]]
        go_enter Try.func40, Try.ntmps40
        go_wp2_with fail
        go_quiet ((first | (go_at_call 35; exact Calls.quiet_of_same (known_is _ _ true _ rfl)) | (go_at_call 28; exact Calls.quiet_of_same (require_is _ 330 _ rfl))))
        go_wp2
        go_ret
        exact ⟨rfl, _, rfl⟩
  · have hk2 : knownB i = false := by simpa using hk
    have HK := Lib.hid hk2
    rw [show (if (knownB i && !up u0 u1 i) = true then 0 else 330) = (330 : Int) from by simp [hk2]]
    clear hk hk2
    go_enter Try.func40, Try.ntmps40
    go_wp2_with fail
    go_quiet ((first | (go_at_call 35; exact Calls.quiet_of_same (known_is _ _ false _ HK.out)) | (go_at_call 28; exact Calls.quiet_of_same (require_is _ 330 _ rfl))))
    go_wp2
    go_ret
    exact ⟨rfl, _, rfl⟩

end Go.Proofs.Ytfjboaanpiceaaa.P
