import Derived.Test.YtfjboaanpiceaaaExtOArm
import Derived.Test.YtfjboaanpiceaaaExtOCrash
import Derived.Test.YtfjboaanpiceaaaExtORestore
import Derived.Test.YtfjboaanpiceaaaExtOApply
namespace Go.Proofs.Ytfjboaanpiceaaa.P
open Go.RowKit Go.Proofs.YtfjboaanpiceaaaW.PrintWords Go.Proofs.YtfjboaanpiceaaaW.PrintLast Go.Proofs.YtfjboaanpiceaaaW.PrintMore
set_option linter.unusedVariables false
set_option linter.unusedSimpArgs false

theorem C_two_inv {α : Type} {d : Kd α} (enc : α → Value) (hd : d.sz = 1) (hK : ∀ w x c, d.K w x c → c = [enc x]) {w : World} {A : Option Addr} {x y : α} (h : Kd.C d w A [x, y].length [x, y]) :
    ∃ b o, A = some ⟨b, o, none⟩ ∧ ∀ j v, [enc x, enc y][j]? = some v → w.cell? ((⟨b, o, none⟩ : Addr).add j) = some v := by
  obtain ⟨_, _, h3⟩ := h
  obtain ⟨ad, rfl, hc⟩ := h3 (by simp)
  have get : ∀ j p, [x, y][j]? = some p → w.cell? (ad.add j) = some (enc p) := by
    intro j p hj
    obtain ⟨c, hl, hk, hcc⟩ := hc j p hj
    have hce := hK _ _ _ hk
    have := hcc 0 (enc p) (by rw [hce]; rfl)
    simpa [hd] using this
  obtain ⟨b, o, s⟩ := ad
  have g0 := get 0 x rfl
  have hs : s = none := by
    cases s with
    | none => rfl
    | some q =>
      unfold World.cell? at g0
      simp [Addr.add] at g0
      split at g0 <;> simp at g0
  subst hs
  refine ⟨b, o, rfl, ?_⟩
  intro j v hj
  match j, hj with
  | 0, hj =>
    obtain rfl : enc x = v := by simpa using hj
    exact get 0 x rfl
  | 1, hj =>
    obtain rfl : enc y = v := by simpa using hj
    exact get 1 y rfl
theorem C_bools {w : World} {A : Option Addr} {x y : Bool} (h : Kd.C Kd.bool w A [x, y].length [x, y]) : ∃ b o, A = some ⟨b, o, none⟩ ∧ ∀ j v, [Value.bool x, .bool y][j]? = some v → w.cell? ((⟨b, o, none⟩ : Addr).add j) = some v :=
  C_two_inv Value.bool rfl (fun _ _ _ h => h) h
theorem C_ints {w : World} {A : Option Addr} {x y : Int} (h : Kd.C (Kd.int .i64) w A [x, y].length [x, y]) : ∃ b o, A = some ⟨b, o, none⟩ ∧ ∀ j v, [Value.int .i64 x, .int .i64 y][j]? = some v → w.cell? ((⟨b, o, none⟩ : Addr).add j) = some v :=
  C_two_inv (Value.int .i64) rfl (fun _ _ _ h => h) h

def OpPost (r1 : Int) (r2 : List Bool) (r3 : List Int) (r4 : Bool) (r5 : Int) (w : World) (e : Ending) (w' : World) : Prop := ∃ v1_ v2_ : Value, e = .returned (.tuple #[.agg #[.int .i64 r1, v1_, v2_, .bool r4], .int .i64 r5]) ∧ Kd.V Kd.bool 4 w' w.heap.size (fun k_ => (w.heap.size ≤ k_)) v1_ r2 ∧ Kd.V (Kd.int .i64) 3 w' w.heap.size (fun k_ => (w.heap.size ≤ k_)) v2_ r3 ∧ Below w.heap.size w w'

theorem bad_post {c : Int} {w : World} {e : Ending} {w' : World} (h : Bad c w e w') : OpPost 0 [] [] false c w e w' :=
  ⟨_, _, h.1, ⟨none, 0, rfl, Nat.le_refl _, Kd.F_nil _ _ _⟩, ⟨none, 0, rfl, Nat.le_refl _, Kd.F_nil _ _ _⟩, h.2⟩
theorem PBlk.ofHeap {w w' : World} {g : Nat} {a : Int} {u0 u1 : Bool} {m0 m1 : Int} {r : Bool} (h : PBlk w g a u0 u1 m0 m1 r) (hb : w'.heap[g]? = w.heap[g]?) : PBlk w' g a u0 u1 m0 m1 r := hb.trans h
theorem good_post {a : Int} {u0 u1 : Bool} {m0 m1 : Int} {r : Bool} {w : World} {e : Ending} {w' : World} (h : Good a u0 u1 m0 m1 r w e w') : OpPost a [u0, u1] [m0, m1] r 0 w e w' := by
  obtain ⟨g, he, hp, hg, hb⟩ := h
  refine ⟨_, _, he, ⟨some ⟨g, 1, none⟩, 2, rfl, Nat.le_refl _, ?_⟩, ⟨some ⟨g, 3, none⟩, 2, rfl, Nat.le_refl _, ?_⟩, hb⟩
  · intro W' hW
    have hp' := hp.ofHeap (hW g hg hp.lt)
    exact C_twob hp'.c1 hp'.c2
  · intro W' hW
    have hp' := hp.ofHeap (hW g hg hp.lt)
    exact C_two hp'.c3 hp'.c4
theorem V_out {α : Type} {d : Kd α} {e B B' N0 N : Nat} {w1 w' : World} {v : Value} {xs : List α} (h : Kd.V d e w1 B (fun k_ => N0 ≤ k_) v xs) (hm : ∀ k, N0 ≤ k → k < w1.heap.size → w'.heap[k]? = w1.heap[k]?) (hN : N ≤ N0) : Kd.V d e w' B' (fun k_ => N ≤ k_) v xs := by
  obtain ⟨A, c, hv, hl, hf⟩ := h
  exact ⟨A, c, hv, hl, Kd.F_mono (Kd.F_step hf hm) (fun k hk => Nat.le_trans hN hk)⟩

theorem not_two {α β : Type} {l1 : List α} {l2 : List β} (h : ∀ u0 u1 m0 m1, ¬ (l1 = [u0, u1] ∧ l2 = [m0, m1])) : ¬ (l1.length = 2 ∧ l2.length = 2) := by
  rintro ⟨h1, h2⟩
  match l1, l2, h1, h2 with
  | [u0, u1], [m0, m1], _, _ => exact h u0 u1 m0 m1 ⟨rfl, rfl⟩

/-! ### the pure functions -/
def mirror_Check.f (a0_0 : Int) (l0_1 : List Bool) (l0_2 : List Int) (a0_3 : Bool) : Option (Int) :=
  match l0_1, l0_2 with
  | [u0, u1], [m0, m1] => some (if validB a0_0 u0 u1 m0 m1 a0_3 then 0 else 1)
  | _, _ => some 1
def mirror_Arm.f (a0_0 : Int) (l0_1 : List Bool) (l0_2 : List Int) (a0_3 : Bool) : Option (Int × List Bool × List Int × Bool × Int) :=
  match l0_1, l0_2 with
  | [u0, u1], [m0, m1] => if validB a0_0 u0 u1 m0 m1 a0_3 then (if decide (0 ≤ a0_0) && !a0_3 then some (a0_0, [u0, u1], [m0, m1], true, 0) else some (0, [], [], false, 330)) else some (0, [], [], false, 1)
  | _, _ => some (0, [], [], false, 1)

theorem operate_arm_post (a : Int) (A1 : Option Addr) (c1 : Nat) (l1 : List Bool) (A2 : Option Addr) (c2 : Nat) (l2 : List Int) (r : Bool) (i : Int) (r1 : Int) (r2 : List Bool) (r3 : List Int) (r4 : Bool) (r5 : Int) (w : World)
    (h1 : Kd.C Kd.bool w A1 l1.length l1) (h2 : Kd.C (Kd.int .i64) w A2 l2.length l2) (h : mirror_Arm.f a l1 l2 r = some (r1, r2, r3, r4, r5)) :
    Calls Try.prog 26 #[.agg #[.int .i64 a, .slice A1 l1.length c1, .slice A2 l2.length c2, .bool r], .int .i64 i, .func (.func 37) #[] #[], .func (.func 38) #[] #[]] w (OpPost r1 r2 r3 r4 r5 w) := by
  unfold mirror_Arm.f at h
  split at h
  · rename_i u0 u1 m0 m1
    obtain ⟨b1, o1, rfl, k1⟩ := C_bools h1
    obtain ⟨b2, o2, rfl, k2⟩ := C_ints h2
    cases hv : validB a u0 u1 m0 m1 r
    · simp only [hv] at h
      simp at h
      obtain ⟨rfl, rfl, rfl, rfl, rfl⟩ := h
      exact (operate_invalid a b1 o1 c1 b2 o2 c2 r u0 u1 m0 m1 i _ _ w k1 k2 hv).mono fun _ _ h => bad_post h
    · simp only [hv, if_true] at h
      cases hm : (decide (0 ≤ a) && !r)
      · rw [hm] at h
        simp at h
        obtain ⟨rfl, rfl, rfl, rfl, rfl⟩ := h
        exact (operate_arm_bad a b1 o1 c1 b2 o2 c2 r u0 u1 m0 m1 i w k1 k2 hv (by rw [hm]; rfl)).mono fun _ _ h => bad_post h
      · rw [hm] at h
        simp at h
        obtain ⟨rfl, rfl, rfl, rfl, rfl⟩ := h
        exact (operate_arm a b1 o1 c1 b2 o2 c2 r u0 u1 m0 m1 i w k1 k2 hv (by rw [hm]; rfl) _ _ _ _ rfl rfl rfl rfl).mono fun _ _ h => good_post h
  · rename_i hn
    simp at h
    obtain ⟨rfl, rfl, rfl, rfl, rfl⟩ := h
    exact (operate_not a A1 A2 l1.length c1 l2.length c2 r i _ _ w (not_two fun u0 u1 m0 m1 h => hn u0 u1 m0 m1 h.1 h.2)).mono fun _ _ h => bad_post h

def mirror_Crash.f (a0_0 : Int) (l0_1 : List Bool) (l0_2 : List Int) (a0_3 : Bool) (a1 : Int) : Option (Int × List Bool × List Int × Bool × Int) :=
  match l0_1, l0_2 with
  | [u0, u1], [m0, m1] => if validB a0_0 u0 u1 m0 m1 a0_3 then (if knownB a1 && up u0 u1 a1 then (if a1 = 0 then some ((if a0_0 = 0 then (if u1 then 1 else -1) else a0_0), [false, u1], [m0, m1], (if a0_0 = 0 then false else a0_3), 0) else some ((if a0_0 = 1 then (if u0 then 0 else -1) else a0_0), [u0, false], [m0, m1], (if a0_0 = 1 then false else a0_3), 0)) else some (0, [], [], false, 330)) else some (0, [], [], false, 1)
  | _, _ => some (0, [], [], false, 1)
def mirror_Restore.f (a0_0 : Int) (l0_1 : List Bool) (l0_2 : List Int) (a0_3 : Bool) (a1 : Int) : Option (Int × List Bool × List Int × Bool × Int) :=
  match l0_1, l0_2 with
  | [u0, u1], [m0, m1] => if validB a0_0 u0 u1 m0 m1 a0_3 then (if knownB a1 && !up u0 u1 a1 then (if a1 = 0 then (if a0_0 = -1 then some (0, [true, u1], [m0, m1], a0_3, 0) else some (1, [true, u1], [m1, m1], a0_3, 0)) else (if a0_0 = -1 then some (1, [u0, true], [m0, m1], a0_3, 0) else some (0, [u0, true], [m0, m0], a0_3, 0))) else some (0, [], [], false, 330)) else some (0, [], [], false, 1)
  | _, _ => some (0, [], [], false, 1)
def applyF (a0_0 : Int) (l0_1 : List Bool) (l0_2 : List Int) (a0_3 : Bool) : Option (Int × List Bool × List Int × Bool × Int) :=
  match l0_1, l0_2 with
  | [u0, u1], [m0, m1] => if validB a0_0 u0 u1 m0 m1 a0_3 then (if a0_0 = -1 then some (0, [], [], false, 330) else (if a0_0 = 0 then (if m0 = 1099511627776 then some (0, [], [], false, 2) else (if a0_3 then some ((if u1 then 1 else -1), [false, u1], [m0, m1], false, 0) else some (0, [u0, u1], [cnt u0 m0, cnt u1 m1], false, 0))) else (if m1 = 1099511627776 then some (0, [], [], false, 2) else (if a0_3 then some ((if u0 then 0 else -1), [u0, false], [m0, m1], false, 0) else some (1, [u0, u1], [cnt u0 m0, cnt u1 m1], false, 0))))) else some (0, [], [], false, 1)
  | _, _ => some (0, [], [], false, 1)
def mirror_Apply.f (a0_0 : Int) (l0_1 : List Bool) (l0_2 : List Int) (a0_3 : Bool) : Option (Int × List Bool × List Int × Bool × Bool × Int) :=
  (applyF a0_0 l0_1 l0_2 a0_3).bind fun x => some (x.1, x.2.1, x.2.2.1, x.2.2.2.1, decide (x.2.2.2.2 = 0) && !a0_3, x.2.2.2.2)

theorem valid_a {a : Int} {u0 u1 : Bool} {m0 m1 : Int} {r : Bool} (h : validB a u0 u1 m0 m1 r = true) : a = -1 ∨ a = 0 ∨ a = 1 := by
  unfold validB at h
  simp only [Bool.and_eq_true] at h
  obtain ⟨_, h⟩ := h
  split at h
  · simp at h; exact .inl h.1
  · simp [knownB] at h; omega
theorem valid_m {a : Int} {u0 u1 : Bool} {m0 m1 : Int} {r : Bool} (h : validB a u0 u1 m0 m1 r = true) : (0 ≤ m0 ∧ m0 ≤ 1099511627776) ∧ (0 ≤ m1 ∧ m1 ≤ 1099511627776) := by
  unfold validB at h
  simp only [Bool.and_eq_true] at h
  obtain ⟨h, _⟩ := h
  simp [oddB] at h
  omega

theorem operate_crash_post (gp : Nat) (a : Int) (A1 : Option Addr) (c1 : Nat) (l1 : List Bool) (A2 : Option Addr) (c2 : Nat) (l2 : List Int) (r : Bool) (i : Int) (r1 : Int) (r2 : List Bool) (r3 : List Int) (r4 : Bool) (r5 : Int) (w : World)
    (h1 : Kd.C Kd.bool w A1 l1.length l1) (h2 : Kd.C (Kd.int .i64) w A2 l2.length l2) (hg : w.cell? ⟨gp, 0, none⟩ = some (.int .i64 i)) (h : mirror_Crash.f a l1 l2 r i = some (r1, r2, r3, r4, r5)) :
    Calls Try.prog 26 #[.agg #[.int .i64 a, .slice A1 l1.length c1, .slice A2 l2.length c2, .bool r], .int .i64 i, .func (.func 34) #[] #[.pointer (some ⟨gp, 0, none⟩)], .func (.func 36) #[] #[]] w (OpPost r1 r2 r3 r4 r5 w) := by
  unfold mirror_Crash.f at h
  split at h
  · rename_i u0 u1 m0 m1
    obtain ⟨b1, o1, rfl, k1⟩ := C_bools h1
    obtain ⟨b2, o2, rfl, k2⟩ := C_ints h2
    cases hv : validB a u0 u1 m0 m1 r
    · simp only [hv] at h
      simp at h
      obtain ⟨rfl, rfl, rfl, rfl, rfl⟩ := h
      exact (operate_invalid a b1 o1 c1 b2 o2 c2 r u0 u1 m0 m1 i _ _ w k1 k2 hv).mono fun _ _ h => bad_post h
    · simp only [hv, if_true] at h
      cases hm : (knownB i && up u0 u1 i)
      · rw [hm] at h
        simp at h
        obtain ⟨rfl, rfl, rfl, rfl, rfl⟩ := h
        exact (operate_crash_bad gp a b1 o1 c1 b2 o2 c2 r u0 u1 m0 m1 i w k1 k2 hv hg (by rw [hm]; rfl)).mono fun _ _ h => bad_post h
      · have hi : i = 0 ∨ i = 1 := by simp [knownB] at hm; omega
        rw [hm] at h
        rcases hi with rfl | rfl
        · simp only [if_true, Option.some.injEq, Prod.mk.injEq] at h
          obtain ⟨rfl, rfl, rfl, rfl, rfl⟩ := h
          exact (operate_crash_0 gp a b1 o1 c1 b2 o2 c2 r u0 u1 m0 m1 w k1 k2 hv hg (by rw [hm]; rfl) _ _ _ _ rfl rfl rfl rfl).mono fun _ _ h => good_post h
        · simp only [if_true, Option.some.injEq, Prod.mk.injEq, show ¬ ((1 : Int) = 0) by omega, if_false] at h
          obtain ⟨rfl, rfl, rfl, rfl, rfl⟩ := h
          exact (operate_crash_1 gp a b1 o1 c1 b2 o2 c2 r u0 u1 m0 m1 w k1 k2 hv hg (by rw [hm]; rfl) _ _ _ _ rfl rfl rfl rfl).mono fun _ _ h => good_post h
  · rename_i hn
    simp at h
    obtain ⟨rfl, rfl, rfl, rfl, rfl⟩ := h
    exact (operate_not a A1 A2 l1.length c1 l2.length c2 r i _ _ w (not_two fun u0 u1 m0 m1 h => hn u0 u1 m0 m1 h.1 h.2)).mono fun _ _ h => bad_post h

theorem valid_other0 {a : Int} {u1 : Bool} {m0 m1 : Int} {r : Bool} (h : validB a false u1 m0 m1 r = true) (ha : ¬ a = -1) : a = 1 := by
  rcases valid_a h with h' | h' | h'
  · exact absurd h' ha
  · subst h'; cases u1 <;> simp [validB] at h
  · exact h'
theorem valid_other1 {a : Int} {u0 : Bool} {m0 m1 : Int} {r : Bool} (h : validB a u0 false m0 m1 r = true) (ha : ¬ a = -1) : a = 0 := by
  rcases valid_a h with h' | h' | h'
  · exact absurd h' ha
  · exact h'
  · subst h'; cases u0 <;> simp [validB] at h

theorem operate_restore_post (gp : Nat) (a : Int) (A1 : Option Addr) (c1 : Nat) (l1 : List Bool) (A2 : Option Addr) (c2 : Nat) (l2 : List Int) (r : Bool) (i : Int) (r1 : Int) (r2 : List Bool) (r3 : List Int) (r4 : Bool) (r5 : Int) (w : World)
    (h1 : Kd.C Kd.bool w A1 l1.length l1) (h2 : Kd.C (Kd.int .i64) w A2 l2.length l2) (hg : w.cell? ⟨gp, 0, none⟩ = some (.int .i64 i)) (h : mirror_Restore.f a l1 l2 r i = some (r1, r2, r3, r4, r5)) :
    Calls Try.prog 26 #[.agg #[.int .i64 a, .slice A1 l1.length c1, .slice A2 l2.length c2, .bool r], .int .i64 i, .func (.func 40) #[] #[.pointer (some ⟨gp, 0, none⟩)], .func (.func 41) #[] #[]] w (OpPost r1 r2 r3 r4 r5 w) := by
  unfold mirror_Restore.f at h
  split at h
  · rename_i u0 u1 m0 m1
    obtain ⟨b1, o1, rfl, k1⟩ := C_bools h1
    obtain ⟨b2, o2, rfl, k2⟩ := C_ints h2
    cases hv : validB a u0 u1 m0 m1 r
    · simp only [hv] at h
      simp at h
      obtain ⟨rfl, rfl, rfl, rfl, rfl⟩ := h
      exact (operate_invalid a b1 o1 c1 b2 o2 c2 r u0 u1 m0 m1 i _ _ w k1 k2 hv).mono fun _ _ h => bad_post h
    · simp only [hv, if_true] at h
      cases hm : (knownB i && !up u0 u1 i)
      · rw [hm] at h
        simp at h
        obtain ⟨rfl, rfl, rfl, rfl, rfl⟩ := h
        exact (operate_restore_bad gp a b1 o1 c1 b2 o2 c2 r u0 u1 m0 m1 i w k1 k2 hv hg (by rw [hm]; rfl)).mono fun _ _ h => bad_post h
      · have hi : i = 0 ∨ i = 1 := by simp [knownB] at hm; omega
        rw [hm] at h
        rcases hi with rfl | rfl
        · simp only [if_true] at h
          have hu : u0 = false := by simpa [knownB, up] using hm
          by_cases ha : a = -1
          · subst ha
            simp only [if_true, Option.some.injEq, Prod.mk.injEq] at h
            obtain ⟨rfl, rfl, rfl, rfl, rfl⟩ := h
            exact (operate_restore_0n gp b1 o1 c1 b2 o2 c2 r u0 u1 m0 m1 w k1 k2 hv hg (by rw [hm]; rfl) _ _ _ _ rfl rfl rfl rfl).mono fun _ _ h => good_post h
          · rw [if_neg ha] at h
            subst hu
            obtain rfl := valid_other0 hv ha
            simp only [Option.some.injEq, Prod.mk.injEq] at h
            obtain ⟨rfl, rfl, rfl, rfl, rfl⟩ := h
            exact (operate_restore_01 gp b1 o1 c1 b2 o2 c2 r false u1 m0 m1 w k1 k2 hv hg (by rw [hm]; rfl) _ _ _ _ rfl rfl rfl rfl).mono fun _ _ h => good_post h
        · simp only [if_true, show ¬ ((1 : Int) = 0) by omega, if_false] at h
          have hu : u1 = false := by simpa [knownB, up] using hm
          by_cases ha : a = -1
          · subst ha
            simp only [if_true, Option.some.injEq, Prod.mk.injEq] at h
            obtain ⟨rfl, rfl, rfl, rfl, rfl⟩ := h
            exact (operate_restore_1n gp b1 o1 c1 b2 o2 c2 r u0 u1 m0 m1 w k1 k2 hv hg (by rw [hm]; rfl) _ _ _ _ rfl rfl rfl rfl).mono fun _ _ h => good_post h
          · rw [if_neg ha] at h
            subst hu
            obtain rfl := valid_other1 hv ha
            simp only [Option.some.injEq, Prod.mk.injEq] at h
            obtain ⟨rfl, rfl, rfl, rfl, rfl⟩ := h
            exact (operate_restore_10 gp b1 o1 c1 b2 o2 c2 r u0 false m0 m1 w k1 k2 hv hg (by rw [hm]; rfl) _ _ _ _ rfl rfl rfl rfl).mono fun _ _ h => good_post h
  · rename_i hn
    simp at h
    obtain ⟨rfl, rfl, rfl, rfl, rfl⟩ := h
    exact (operate_not a A1 A2 l1.length c1 l2.length c2 r i _ _ w (not_two fun u0 u1 m0 m1 h => hn u0 u1 m0 m1 h.1 h.2)).mono fun _ _ h => bad_post h

theorem operate_apply_post (a : Int) (A1 : Option Addr) (c1 : Nat) (l1 : List Bool) (A2 : Option Addr) (c2 : Nat) (l2 : List Int) (r : Bool) (r1 : Int) (r2 : List Bool) (r3 : List Int) (r4 : Bool) (r5 : Int) (w : World)
    (h1 : Kd.C Kd.bool w A1 l1.length l1) (h2 : Kd.C (Kd.int .i64) w A2 l2.length l2) (h : applyF a l1 l2 r = some (r1, r2, r3, r4, r5)) :
    Calls Try.prog 26 #[.agg #[.int .i64 a, .slice A1 l1.length c1, .slice A2 l2.length c2, .bool r], .int .i64 a, .func (.func 27) #[] #[], .func (.func 29) #[] #[]] w (OpPost r1 r2 r3 r4 r5 w) := by
  unfold applyF at h
  split at h
  · rename_i u0 u1 m0 m1
    obtain ⟨b1, o1, rfl, k1⟩ := C_bools h1
    obtain ⟨b2, o2, rfl, k2⟩ := C_ints h2
    cases hv : validB a u0 u1 m0 m1 r
    · simp only [hv] at h
      simp at h
      obtain ⟨rfl, rfl, rfl, rfl, rfl⟩ := h
      exact (operate_invalid a b1 o1 c1 b2 o2 c2 r u0 u1 m0 m1 _ _ _ w k1 k2 hv).mono fun _ _ h => bad_post h
    · simp only [hv, if_true] at h
      obtain ⟨q0, q1⟩ := valid_m hv
      rcases valid_a hv with rfl | rfl | rfl
      · simp at h
        obtain ⟨rfl, rfl, rfl, rfl, rfl⟩ := h
        exact (operate_apply_n b1 o1 c1 b2 o2 c2 r u0 u1 m0 m1 _ w k1 k2 hv).mono fun _ _ h => bad_post h
      · simp only [show ¬ ((0 : Int) = -1) by omega, if_false, if_true] at h
        by_cases hm : m0 = 1099511627776
        · rw [if_pos hm] at h
          simp at h
          obtain ⟨rfl, rfl, rfl, rfl, rfl⟩ := h
          exact (operate_apply_lim0 b1 o1 c1 b2 o2 c2 r u0 u1 m0 m1 _ w k1 k2 hv (by rw [if_pos hm])).mono fun _ _ h => bad_post h
        · rw [if_neg hm] at h
          cases r
          · simp only [Bool.false_eq_true, if_false, Option.some.injEq, Prod.mk.injEq] at h
            obtain ⟨rfl, rfl, rfl, rfl, rfl⟩ := h
            exact (operate_apply_done0 b1 o1 c1 b2 o2 c2 u0 u1 m0 m1 _ w k1 k2 hv q0 q1 (by rw [if_neg hm]) _ _ _ _ rfl rfl rfl rfl).mono fun _ _ h => good_post h
          · simp only [if_true, Option.some.injEq, Prod.mk.injEq] at h
            obtain ⟨rfl, rfl, rfl, rfl, rfl⟩ := h
            exact (operate_apply_lost0 b1 o1 c1 b2 o2 c2 u0 u1 m0 m1 w k1 k2 hv (by rw [if_neg hm]) _ _ _ _ rfl rfl rfl rfl).mono fun _ _ h => good_post h
      · simp only [show ¬ ((1 : Int) = -1) by omega, show ¬ ((1 : Int) = 0) by omega, if_false] at h
        by_cases hm : m1 = 1099511627776
        · rw [if_pos hm] at h
          simp at h
          obtain ⟨rfl, rfl, rfl, rfl, rfl⟩ := h
          exact (operate_apply_lim1 b1 o1 c1 b2 o2 c2 r u0 u1 m0 m1 _ w k1 k2 hv (by rw [if_pos hm])).mono fun _ _ h => bad_post h
        · rw [if_neg hm] at h
          cases r
          · simp only [Bool.false_eq_true, if_false, Option.some.injEq, Prod.mk.injEq] at h
            obtain ⟨rfl, rfl, rfl, rfl, rfl⟩ := h
            exact (operate_apply_done1 b1 o1 c1 b2 o2 c2 u0 u1 m0 m1 _ w k1 k2 hv q0 q1 (by rw [if_neg hm]) _ _ _ _ rfl rfl rfl rfl).mono fun _ _ h => good_post h
          · simp only [if_true, Option.some.injEq, Prod.mk.injEq] at h
            obtain ⟨rfl, rfl, rfl, rfl, rfl⟩ := h
            exact (operate_apply_lost1 b1 o1 c1 b2 o2 c2 u0 u1 m0 m1 w k1 k2 hv (by rw [if_neg hm]) _ _ _ _ rfl rfl rfl rfl).mono fun _ _ h => good_post h
  · rename_i hn
    simp at h
    obtain ⟨rfl, rfl, rfl, rfl, rfl⟩ := h
    exact (operate_not a A1 A2 l1.length c1 l2.length c2 r _ _ _ w (not_two fun u0 u1 m0 m1 h => hn u0 u1 m0 m1 h.1 h.2)).mono fun _ _ h => bad_post h
end Go.Proofs.Ytfjboaanpiceaaa.P
