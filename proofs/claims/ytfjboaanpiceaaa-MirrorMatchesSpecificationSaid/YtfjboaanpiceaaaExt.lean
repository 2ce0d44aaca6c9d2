import Derived.Test.YtfjboaanpiceaaaExtP
namespace Go.Proofs.Ytfjboaanpiceaaa.P
open Go.RowKit Go.Proofs.YtfjboaanpiceaaaW.PrintWords Go.Proofs.YtfjboaanpiceaaaW.PrintLast Go.Proofs.YtfjboaanpiceaaaW.PrintMore
set_option linter.unusedVariables false
set_option linter.unusedSimpArgs false

theorem set4 {w : World} {g : Nat} {x0 x1 x2 x3 : Value} {N0 N : Nat} {α : Type} {d : Kd α} {e B B' : Nat} {v : Value} {xs : List α} (h : Kd.V d e w B (fun k_ => N0 ≤ k_) v xs) (hg : g < N0) (hN : N ≤ N0) :
    Kd.V d e ((((w.setCell ⟨g, 0, none⟩ x0).setCell ⟨g, 1, none⟩ x1).setCell ⟨g, 2, none⟩ x2).setCell ⟨g, 3, none⟩ x3) B' (fun k_ => N ≤ k_) v xs := by
  refine V_out h (fun k hk _ => ?_) hN
  rw [Below.heap_setCell _ _ _ _ (by show k ≠ g; omega), Below.heap_setCell _ _ _ _ (by show k ≠ g; omega), Below.heap_setCell _ _ _ _ (by show k ≠ g; omega), Below.heap_setCell _ _ _ _ (by show k ≠ g; omega)]
theorem set4d {w : World} {g : Nat} {x0 x1 x2 x3 : Value} {N0 N : Nat} {α : Type} {d : Kd α} {e B B' : Nat} {v : Value} {xs : List α} (h : Kd.V d e w B (fun k_ => N0 ≤ k_) v xs) (hg : g < N0) (hN : N ≤ N0) :
    Kd.V d e ((((w.setCell ⟨g, 0, none⟩ x0).setCell ⟨g, 1, none⟩ x1).setCell ⟨g, 2, none⟩ x2).setCell ⟨g, 3, none⟩ x3).drew B' (fun k_ => N ≤ k_) v xs :=
  V_out (set4 (B' := B) h hg hN) (fun _ _ _ => rfl) (Nat.le_refl _)

set_option maxHeartbeats 1000000 in
theorem mirror_Arm.calls (a0_0 : Int) (A0_1 : Option Addr) (c0_1 : Nat) (l0_1 : List Bool) (A0_2 : Option Addr) (c0_2 : Nat) (l0_2 : List Int) (a0_3 : Bool) (r1 : Int) (r2 : List Bool) (r3 : List Int) (r4 : Bool) (r5 : Int) (w : World) (hr0_1 : Kd.C Kd.bool w A0_1 l0_1.length l0_1) (hc0_1 : l0_1.length ≤ c0_1) (hr0_2 : Kd.C (Kd.int .i64) w A0_2 l0_2.length l0_2) (hc0_2 : l0_2.length ≤ c0_2) (h : mirror_Arm.f a0_0 l0_1 l0_2 a0_3 = some (r1, r2, r3, r4, r5)) :
    Calls Try.prog 16 #[.agg #[.int .i64 a0_0, .slice A0_1 l0_1.length c0_1, .slice A0_2 l0_2.length c0_2, .bool a0_3]] w fun e w' => ∃ v1_ v2_ : Value, e = .returned (.tuple #[.agg #[.int .i64 r1, v1_, v2_, .bool r4], .int .i64 r5]) ∧ Kd.V Kd.bool 4 w' w.heap.size (fun k_ => (w.heap.size ≤ k_)) v1_ r2 ∧ Kd.V (Kd.int .i64) 3 w' w.heap.size (fun k_ => (w.heap.size ≤ k_)) v2_ r3 ∧ Below w.heap.size w w' := by
  have hmf : ∀ (fn : Fn) (first cap : Array Value) (w : World), (Instr.makeFunc fn first cap).run Try.prog w = .ok (.func fn first cap) w := fun _ _ _ _ => rfl
  have H1 := Lib.hid hr0_1
  have H2 := Lib.hid hr0_2
  have HF := Lib.hid h
  clear hr0_1 hr0_2 h hc0_1 hc0_2
  show Calls _ _ _ _ (OpPost r1 r2 r3 r4 r5 w)
  go_enter Try.func16, Try.ntmps16
  go_wp2_with fail
  obtain ⟨W0, hW0⟩ : ∃ W0, W0 = (w.alloc (.cells #[.int .i64 a0_0, .slice A0_1 l0_1.length c0_1, .slice A0_2 l0_2.length c0_2, .bool a0_3] 25)).alloc (.cells #[.int .i64 0, .slice none 0 0, .slice none 0 0, .bool false] 25) := ⟨_, rfl⟩
  rw [← hW0]
  have bW : Below w.heap.size w W0 := by rw [hW0]; exact below_alloc (below_alloc (Below.refl _ _) _) _
  have sW : W0.heap.size = w.heap.size + 2 := by rw [hW0]; simp
  have D0 : DBlk W0 (w.heap.size + 1) 0 (.slice none 0 0) (.slice none 0 0) false := by rw [hW0]; rw [show w.heap.size + 1 = (w.alloc (.cells #[.int .i64 a0_0, .slice A0_1 l0_1.length c0_1, .slice A0_2 l0_2.length c0_2, .bool a0_3] 25)).heap.size by simp]; exact DBlk.new0 _
  have HW := Lib.hid hW0
  clear hW0
  refine (operate_arm_post a0_0 A0_1 c0_1 l0_1 A0_2 c0_2 l0_2 a0_3 0 r1 r2 r3 r4 r5 _ (Kd.C_below H1.out bW) (Kd.C_below H2.out bW) HF.out).mono ?_
  rintro e w1 ⟨v1, v2, rfl, hv1, hv2, hb⟩
  obtain ⟨Aa, ca, rfl, hl1, hf1⟩ := hv1
  obtain ⟨Ab, cb, rfl, hl2, hf2⟩ := hv2
  have D1 := D0.below hb
  have d0 := D1.c0; have d1 := D1.c1; have d2 := D1.c2; have d3 := D1.c3; have df := D1.fr
  have HB := Lib.hid (below_then bW (by omega) hb)
  have HS := Lib.hid sW
  have HV1 := Lib.hid (show Kd.V Kd.bool 4 w1 W0.heap.size (fun k_ => (W0.heap.size ≤ k_)) _ r2 from ⟨Aa, ca, rfl, hl1, hf1⟩)
  have HV2 := Lib.hid (show Kd.V (Kd.int .i64) 3 w1 W0.heap.size (fun k_ => (W0.heap.size ≤ k_)) _ r3 from ⟨Ab, cb, rfl, hl2, hf2⟩)
  clear hb bW sW D0 D1 hl1 hl2 hf1 hf2
  go_wp2_with fail
  refine bodyPost_ret (v := .tuple #[.agg #[.int .i64 r1, .slice Aa r2.length ca, .slice Ab r3.length cb, .bool r4], .int .i64 r5]) (by simp [results, Try.results16, go_sem, *]) rfl ⟨_, _, rfl, ?_, ?_, ?_⟩
  · exact set4 HV1.out (by have := HS.out; omega) (by have := HS.out; omega)
  · exact set4 HV2.out (by have := HS.out; omega) (by have := HS.out; omega)
  · exact Below.setCell (Below.setCell (Below.setCell (Below.setCell HB.out (by first | (simp; done) | (simp; omega)) _) (by first | (simp; done) | (simp; omega)) _) (by first | (simp; done) | (simp; omega)) _) (by first | (simp; done) | (simp; omega)) _

set_option maxHeartbeats 1000000 in
theorem mirror_Crash.calls (a0_0 : Int) (A0_1 : Option Addr) (c0_1 : Nat) (l0_1 : List Bool) (A0_2 : Option Addr) (c0_2 : Nat) (l0_2 : List Int) (a0_3 : Bool) (a1 : Int) (r1 : Int) (r2 : List Bool) (r3 : List Int) (r4 : Bool) (r5 : Int) (w : World) (hr0_1 : Kd.C Kd.bool w A0_1 l0_1.length l0_1) (hc0_1 : l0_1.length ≤ c0_1) (hr0_2 : Kd.C (Kd.int .i64) w A0_2 l0_2.length l0_2) (hc0_2 : l0_2.length ≤ c0_2) (h : mirror_Crash.f a0_0 l0_1 l0_2 a0_3 a1 = some (r1, r2, r3, r4, r5)) :
    Calls Try.prog 14 #[.agg #[.int .i64 a0_0, .slice A0_1 l0_1.length c0_1, .slice A0_2 l0_2.length c0_2, .bool a0_3], .int .i64 a1] w fun e w' => ∃ v1_ v2_ : Value, e = .returned (.tuple #[.agg #[.int .i64 r1, v1_, v2_, .bool r4], .int .i64 r5]) ∧ Kd.V Kd.bool 4 w' w.heap.size (fun k_ => (w.heap.size ≤ k_)) v1_ r2 ∧ Kd.V (Kd.int .i64) 3 w' w.heap.size (fun k_ => (w.heap.size ≤ k_)) v2_ r3 ∧ Below w.heap.size w w' := by
  have hmf : ∀ (fn : Fn) (first cap : Array Value) (w : World), (Instr.makeFunc fn first cap).run Try.prog w = .ok (.func fn first cap) w := fun _ _ _ _ => rfl
  have H1 := Lib.hid hr0_1
  have H2 := Lib.hid hr0_2
  have HF := Lib.hid h
  clear hr0_1 hr0_2 h hc0_1 hc0_2
  show Calls _ _ _ _ (OpPost r1 r2 r3 r4 r5 w)
  go_enter Try.func14, Try.ntmps14
  go_wp2_with fail
  obtain ⟨W0, hW0⟩ : ∃ W0, W0 = ((w.alloc (.cells #[.int .i64 a0_0, .slice A0_1 l0_1.length c0_1, .slice A0_2 l0_2.length c0_2, .bool a0_3] 25)).alloc (.cells #[.int .i64 a1] 3)).alloc (.cells #[.int .i64 0, .slice none 0 0, .slice none 0 0, .bool false] 25) := ⟨_, rfl⟩
  rw [← hW0]
  have bW : Below w.heap.size w W0 := by rw [hW0]; exact below_alloc (below_alloc (below_alloc (Below.refl _ _) _) _) _
  have sW : W0.heap.size = w.heap.size + 3 := by rw [hW0]; simp
  have D0 : DBlk W0 (w.heap.size + 2) 0 (.slice none 0 0) (.slice none 0 0) false := by rw [hW0]; rw [show w.heap.size + 2 = ((w.alloc (.cells #[.int .i64 a0_0, .slice A0_1 l0_1.length c0_1, .slice A0_2 l0_2.length c0_2, .bool a0_3] 25)).alloc (.cells #[.int .i64 a1] 3)).heap.size by simp]; exact DBlk.new0 _
  have gp : W0.cell? ⟨w.heap.size + 1, 0, none⟩ = some (.int .i64 a1) := by rw [hW0]; rw [World.cell?_alloc_past _ _ _ (by simp), World.cell?_alloc_at _ _ _ _ (by simp)]; rfl
  have HW := Lib.hid hW0
  clear hW0
  refine (operate_crash_post _ a0_0 A0_1 c0_1 l0_1 A0_2 c0_2 l0_2 a0_3 a1 r1 r2 r3 r4 r5 _ (Kd.C_below H1.out bW) (Kd.C_below H2.out bW) gp HF.out).mono ?_
  rintro e w1 ⟨v1, v2, rfl, hv1, hv2, hb⟩
  obtain ⟨Aa, ca, rfl, hl1, hf1⟩ := hv1
  obtain ⟨Ab, cb, rfl, hl2, hf2⟩ := hv2
  have D1 := D0.below hb
  have d0 := D1.c0; have d1 := D1.c1; have d2 := D1.c2; have d3 := D1.c3; have df := D1.fr
  have HB := Lib.hid (below_then bW (by omega) hb)
  have HS := Lib.hid sW
  have HV1 := Lib.hid (show Kd.V Kd.bool 4 w1 W0.heap.size (fun k_ => (W0.heap.size ≤ k_)) _ r2 from ⟨Aa, ca, rfl, hl1, hf1⟩)
  have HV2 := Lib.hid (show Kd.V (Kd.int .i64) 3 w1 W0.heap.size (fun k_ => (W0.heap.size ≤ k_)) _ r3 from ⟨Ab, cb, rfl, hl2, hf2⟩)
  clear hb bW sW D0 D1 hl1 hl2 hf1 hf2 gp
  go_wp2_with fail
  refine bodyPost_ret (v := .tuple #[.agg #[.int .i64 r1, .slice Aa r2.length ca, .slice Ab r3.length cb, .bool r4], .int .i64 r5]) (by simp [results, Try.results14, go_sem, *]) rfl ⟨_, _, rfl, ?_, ?_, ?_⟩
  · exact set4 HV1.out (by have := HS.out; omega) (by have := HS.out; omega)
  · exact set4 HV2.out (by have := HS.out; omega) (by have := HS.out; omega)
  · exact Below.setCell (Below.setCell (Below.setCell (Below.setCell HB.out (by first | (simp; done) | (simp; omega)) _) (by first | (simp; done) | (simp; omega)) _) (by first | (simp; done) | (simp; omega)) _) (by first | (simp; done) | (simp; omega)) _

set_option maxHeartbeats 1000000 in
theorem mirror_Restore.calls (a0_0 : Int) (A0_1 : Option Addr) (c0_1 : Nat) (l0_1 : List Bool) (A0_2 : Option Addr) (c0_2 : Nat) (l0_2 : List Int) (a0_3 : Bool) (a1 : Int) (r1 : Int) (r2 : List Bool) (r3 : List Int) (r4 : Bool) (r5 : Int) (w : World) (hr0_1 : Kd.C Kd.bool w A0_1 l0_1.length l0_1) (hc0_1 : l0_1.length ≤ c0_1) (hr0_2 : Kd.C (Kd.int .i64) w A0_2 l0_2.length l0_2) (hc0_2 : l0_2.length ≤ c0_2) (h : mirror_Restore.f a0_0 l0_1 l0_2 a0_3 a1 = some (r1, r2, r3, r4, r5)) :
    Calls Try.prog 18 #[.agg #[.int .i64 a0_0, .slice A0_1 l0_1.length c0_1, .slice A0_2 l0_2.length c0_2, .bool a0_3], .int .i64 a1] w fun e w' => ∃ v1_ v2_ : Value, e = .returned (.tuple #[.agg #[.int .i64 r1, v1_, v2_, .bool r4], .int .i64 r5]) ∧ Kd.V Kd.bool 4 w' w.heap.size (fun k_ => (w.heap.size ≤ k_)) v1_ r2 ∧ Kd.V (Kd.int .i64) 3 w' w.heap.size (fun k_ => (w.heap.size ≤ k_)) v2_ r3 ∧ Below w.heap.size w w' := by
  have hmf : ∀ (fn : Fn) (first cap : Array Value) (w : World), (Instr.makeFunc fn first cap).run Try.prog w = .ok (.func fn first cap) w := fun _ _ _ _ => rfl
  have H1 := Lib.hid hr0_1
  have H2 := Lib.hid hr0_2
  have HF := Lib.hid h
  clear hr0_1 hr0_2 h hc0_1 hc0_2
  show Calls _ _ _ _ (OpPost r1 r2 r3 r4 r5 w)
  go_enter Try.func18, Try.ntmps18
  go_wp2_with fail
  obtain ⟨W0, hW0⟩ : ∃ W0, W0 = ((w.alloc (.cells #[.int .i64 a0_0, .slice A0_1 l0_1.length c0_1, .slice A0_2 l0_2.length c0_2, .bool a0_3] 25)).alloc (.cells #[.int .i64 a1] 3)).alloc (.cells #[.int .i64 0, .slice none 0 0, .slice none 0 0, .bool false] 25) := ⟨_, rfl⟩
  rw [← hW0]
  have bW : Below w.heap.size w W0 := by rw [hW0]; exact below_alloc (below_alloc (below_alloc (Below.refl _ _) _) _) _
  have sW : W0.heap.size = w.heap.size + 3 := by rw [hW0]; simp
  have D0 : DBlk W0 (w.heap.size + 2) 0 (.slice none 0 0) (.slice none 0 0) false := by rw [hW0]; rw [show w.heap.size + 2 = ((w.alloc (.cells #[.int .i64 a0_0, .slice A0_1 l0_1.length c0_1, .slice A0_2 l0_2.length c0_2, .bool a0_3] 25)).alloc (.cells #[.int .i64 a1] 3)).heap.size by simp]; exact DBlk.new0 _
  have gp : W0.cell? ⟨w.heap.size + 1, 0, none⟩ = some (.int .i64 a1) := by rw [hW0]; rw [World.cell?_alloc_past _ _ _ (by simp), World.cell?_alloc_at _ _ _ _ (by simp)]; rfl
  have HW := Lib.hid hW0
  clear hW0
  refine (operate_restore_post _ a0_0 A0_1 c0_1 l0_1 A0_2 c0_2 l0_2 a0_3 a1 r1 r2 r3 r4 r5 _ (Kd.C_below H1.out bW) (Kd.C_below H2.out bW) gp HF.out).mono ?_
  rintro e w1 ⟨v1, v2, rfl, hv1, hv2, hb⟩
  obtain ⟨Aa, ca, rfl, hl1, hf1⟩ := hv1
  obtain ⟨Ab, cb, rfl, hl2, hf2⟩ := hv2
  have D1 := D0.below hb
  have d0 := D1.c0; have d1 := D1.c1; have d2 := D1.c2; have d3 := D1.c3; have df := D1.fr
  have HB := Lib.hid (below_then bW (by omega) hb)
  have HS := Lib.hid sW
  have HV1 := Lib.hid (show Kd.V Kd.bool 4 w1 W0.heap.size (fun k_ => (W0.heap.size ≤ k_)) _ r2 from ⟨Aa, ca, rfl, hl1, hf1⟩)
  have HV2 := Lib.hid (show Kd.V (Kd.int .i64) 3 w1 W0.heap.size (fun k_ => (W0.heap.size ≤ k_)) _ r3 from ⟨Ab, cb, rfl, hl2, hf2⟩)
  clear hb bW sW D0 D1 hl1 hl2 hf1 hf2 gp
  go_wp2_with fail
  refine bodyPost_ret (v := .tuple #[.agg #[.int .i64 r1, .slice Aa r2.length ca, .slice Ab r3.length cb, .bool r4], .int .i64 r5]) (by simp [results, Try.results18, go_sem, *]) rfl ⟨_, _, rfl, ?_, ?_, ?_⟩
  · exact set4 HV1.out (by have := HS.out; omega) (by have := HS.out; omega)
  · exact set4 HV2.out (by have := HS.out; omega) (by have := HS.out; omega)
  · exact Below.setCell (Below.setCell (Below.setCell (Below.setCell HB.out (by first | (simp; done) | (simp; omega)) _) (by first | (simp; done) | (simp; omega)) _) (by first | (simp; done) | (simp; omega)) _) (by first | (simp; done) | (simp; omega)) _

theorem DBlk.set4 {w : World} {g : Nat} {a : Int} {s1 s2 : Value} {r : Bool} (h : DBlk w g a s1 s2 r) (a' : Int) (s1' s2' : Value) (r' : Bool) : DBlk ((((w.setCell ⟨g, 0, none⟩ (.int .i64 a')).setCell ⟨g, 1, none⟩ s1').setCell ⟨g, 2, none⟩ s2').setCell ⟨g, 3, none⟩ (.bool r')) g a' s1' s2' r' := by
  unfold DBlk at h ⊢; simp [World.setCell, Array.getElem?_modify, h]
theorem DBlk.far {w : World} {g : Nat} {a : Int} {s1 s2 : Value} {r : Bool} (h : DBlk w g a s1 s2 r) {p : Addr} (hne : g ≠ p.block) (u : Value) : DBlk (w.setCell p u) g a s1 s2 r := (Below.heap_setCell w p u g hne).trans h
def ApPost (r1 : Int) (r2 : List Bool) (r3 : List Int) (r4 r5 : Bool) (r6 : Int) (w : World) (e : Ending) (w' : World) : Prop := ∃ v1_ v2_ : Value, e = .returned (.tuple #[.agg #[.int .i64 r1, v1_, v2_, .bool r4], .bool r5, .int .i64 r6]) ∧ Kd.V Kd.bool 4 w' w.heap.size (fun k_ => (w.heap.size ≤ k_)) v1_ r2 ∧ Kd.V (Kd.int .i64) 3 w' w.heap.size (fun k_ => (w.heap.size ≤ k_)) v2_ r3 ∧ Below w.heap.size w w'

set_option maxHeartbeats 1000000 in
theorem mirror_Apply.calls (a0_0 : Int) (A0_1 : Option Addr) (c0_1 : Nat) (l0_1 : List Bool) (A0_2 : Option Addr) (c0_2 : Nat) (l0_2 : List Int) (a0_3 : Bool) (r1 : Int) (r2 : List Bool) (r3 : List Int) (r4 : Bool) (r5 : Bool) (r6 : Int) (w : World) (hr0_1 : Kd.C Kd.bool w A0_1 l0_1.length l0_1) (hc0_1 : l0_1.length ≤ c0_1) (hr0_2 : Kd.C (Kd.int .i64) w A0_2 l0_2.length l0_2) (hc0_2 : l0_2.length ≤ c0_2) (h : mirror_Apply.f a0_0 l0_1 l0_2 a0_3 = some (r1, r2, r3, r4, r5, r6)) :
    Calls Try.prog 12 #[.agg #[.int .i64 a0_0, .slice A0_1 l0_1.length c0_1, .slice A0_2 l0_2.length c0_2, .bool a0_3]] w fun e w' => ∃ v1_ v2_ : Value, e = .returned (.tuple #[.agg #[.int .i64 r1, v1_, v2_, .bool r4], .bool r5, .int .i64 r6]) ∧ Kd.V Kd.bool 4 w' w.heap.size (fun k_ => (w.heap.size ≤ k_)) v1_ r2 ∧ Kd.V (Kd.int .i64) 3 w' w.heap.size (fun k_ => (w.heap.size ≤ k_)) v2_ r3 ∧ Below w.heap.size w w' := by
  have hmf : ∀ (fn : Fn) (first cap : Array Value) (w : World), (Instr.makeFunc fn first cap).run Try.prog w = .ok (.func fn first cap) w := fun _ _ _ _ => rfl
  have H1 := Lib.hid hr0_1
  have H2 := Lib.hid hr0_2
  unfold mirror_Apply.f at h
  obtain ⟨⟨s1, s2, s3, s4, s5⟩, h5, h⟩ := Option.bind_eq_some_iff.mp h
  simp only [Option.some.injEq, Prod.mk.injEq] at h
  obtain ⟨rfl, rfl, rfl, rfl, hr5, rfl⟩ := h
  have HF := Lib.hid h5
  have HR := Lib.hid hr5
  clear h5 hr5
  clear hr0_1 hr0_2 hc0_1 hc0_2
  show Calls _ _ _ _ (ApPost s1 s2 s3 s4 r5 s5 w)
  go_enter Try.func12, Try.ntmps12
  go_wp2_with fail
  obtain ⟨W0, hW0⟩ : ∃ W0, W0 = (w.alloc (.cells #[.int .i64 a0_0, .slice A0_1 l0_1.length c0_1, .slice A0_2 l0_2.length c0_2, .bool a0_3] 25)).alloc (.cells #[.int .i64 0, .slice none 0 0, .slice none 0 0, .bool false] 25) := ⟨_, rfl⟩
  rw [← hW0]
  have bW : Below w.heap.size w W0 := by rw [hW0]; exact below_alloc (below_alloc (Below.refl _ _) _) _
  have sW : W0.heap.size = w.heap.size + 2 := by rw [hW0]; simp
  have D0 : DBlk W0 (w.heap.size + 1) 0 (.slice none 0 0) (.slice none 0 0) false := by rw [hW0]; rw [show w.heap.size + 1 = (w.alloc (.cells #[.int .i64 a0_0, .slice A0_1 l0_1.length c0_1, .slice A0_2 l0_2.length c0_2, .bool a0_3] 25)).heap.size by simp]; exact DBlk.new0 _
  have X0 : DBlk W0 w.heap.size a0_0 (.slice A0_1 l0_1.length c0_1) (.slice A0_2 l0_2.length c0_2) a0_3 := by rw [hW0]; exact (DBlk.new _).alloc _
  have HW := Lib.hid hW0
  clear hW0
  refine (operate_apply_post a0_0 A0_1 c0_1 l0_1 A0_2 c0_2 l0_2 a0_3 s1 s2 s3 s4 s5 _ (Kd.C_below H1.out bW) (Kd.C_below H2.out bW) HF.out).mono ?_
  rintro e w1 ⟨v1, v2, rfl, hv1, hv2, hb⟩
  obtain ⟨Aa, ca, rfl, hl1, hf1⟩ := hv1
  obtain ⟨Ab, cb, rfl, hl2, hf2⟩ := hv2
  have D1 := D0.below hb
  have HD := Lib.hid D1
  have HX := Lib.hid (X0.below hb)
  have d0 := D1.c0; have d1 := D1.c1; have d2 := D1.c2; have d3 := D1.c3; have df := D1.fr
  have HB := Lib.hid (below_then bW (by omega) hb)
  have HS := Lib.hid sW
  have HV1 := Lib.hid (show Kd.V Kd.bool 4 w1 W0.heap.size (fun k_ => (W0.heap.size ≤ k_)) _ s2 from ⟨Aa, ca, rfl, hl1, hf1⟩)
  have HV2 := Lib.hid (show Kd.V (Kd.int .i64) 3 w1 W0.heap.size (fun k_ => (W0.heap.size ≤ k_)) _ s3 from ⟨Ab, cb, rfl, hl2, hf2⟩)
  clear hb bW sW D0 D1 X0 hl1 hl2 hf1 hf2
  go_wp2_with fail
  obtain ⟨W2, hW2⟩ : ∃ W2, W2 = (((w1.setCell ⟨w.heap.size + 1, 0, none⟩ (.int .i64 s1)).setCell ⟨w.heap.size + 1, 1, none⟩ (.slice Aa s2.length ca)).setCell ⟨w.heap.size + 1, 2, none⟩ (.slice Ab s3.length cb)).setCell ⟨w.heap.size + 1, 3, none⟩ (.bool s4) := ⟨_, rfl⟩
  rw [← hW2]
  have R2 : DBlk W2 (w.heap.size + 1) s1 (.slice Aa s2.length ca) (.slice Ab s3.length cb) s4 := by rw [hW2]; exact HD.out.set4 _ _ _ _
  have X2 : DBlk W2 w.heap.size a0_0 (.slice A0_1 l0_1.length c0_1) (.slice A0_2 l0_2.length c0_2) a0_3 := by
    rw [hW2]
    exact (((HX.out.far (by simp) _).far (by simp) _).far (by simp) _).far (by simp) _
  have B2 : Below w.heap.size w W2 := by rw [hW2]; exact Below.setCell (Below.setCell (Below.setCell (Below.setCell HB.out (by simp) _) (by simp) _) (by simp) _) (by simp) _
  have V1 : Kd.V Kd.bool 4 W2 w.heap.size (fun k_ => (w.heap.size + 2 ≤ k_)) (.slice Aa s2.length ca) s2 := by rw [hW2]; exact set4 HV1.out (by have := HS.out; omega) (by have := HS.out; omega)
  have V2 : Kd.V (Kd.int .i64) 3 W2 w.heap.size (fun k_ => (w.heap.size + 2 ≤ k_)) (.slice Ab s3.length cb) s3 := by rw [hW2]; exact set4 HV2.out (by have := HS.out; omega) (by have := HS.out; omega)
  clear d0 d1 d2 d3 df hW2
  have HV1 := Lib.hid V1
  have HV2 := Lib.hid V2
  have HB := Lib.hid B2
  clear V1 V2 B2
  have d0 := R2.c0; have d1 := R2.c1; have d2 := R2.c2; have d3 := R2.c3; have df := R2.fr
  have x3 := X2.c3
  clear R2 X2
  by_cases h5 : s5 = 0
  · obtain rfl : r5 = !a0_3 := by rw [← HR.out]; simp [h5]
    subst h5
    go_region
    all_goals go_wp2
    all_goals (refine bodyPost_ret (v := .tuple #[.agg #[.int .i64 s1, .slice Aa s2.length ca, .slice Ab s3.length cb, .bool s4], .bool (!a0_3), .int .i64 0]) (by simp [results, Try.results12, go_sem, *]) rfl ⟨_, _, rfl, ?_, ?_, ?_⟩)
    all_goals first
      | exact set4d HV1.out (by omega) (by omega)
      | exact set4d HV2.out (by omega) (by omega)
      | exact below_drew (Below.setCell (Below.setCell (Below.setCell (Below.setCell HB.out (by simp) _) (by simp) _) (by simp) _) (by simp) _)
  · obtain rfl : r5 = false := by rw [← HR.out]; simp [h5]
    have hb5 : (s5 == 0) = false := by simpa using h5
    clear h5
    go_region
    all_goals go_wp2
    all_goals (refine bodyPost_ret (v := .tuple #[.agg #[.int .i64 s1, .slice Aa s2.length ca, .slice Ab s3.length cb, .bool s4], .bool false, .int .i64 s5]) (by simp [results, Try.results12, go_sem, *]) rfl ⟨_, _, rfl, ?_, ?_, ?_⟩)
    all_goals first
      | exact set4d HV1.out (by omega) (by omega)
      | exact set4d HV2.out (by omega) (by omega)
      | exact below_drew (Below.setCell (Below.setCell (Below.setCell (Below.setCell HB.out (by simp) _) (by simp) _) (by simp) _) (by simp) _)

theorem mirror_Check.calls (a0_0 : Int) (A0_1 : Option Addr) (c0_1 : Nat) (l0_1 : List Bool) (A0_2 : Option Addr) (c0_2 : Nat) (l0_2 : List Int) (a0_3 : Bool) (r : Int) (w : World) (hr0_1 : Kd.C Kd.bool w A0_1 l0_1.length l0_1) (hc0_1 : l0_1.length ≤ c0_1) (hr0_2 : Kd.C (Kd.int .i64) w A0_2 l0_2.length l0_2) (hc0_2 : l0_2.length ≤ c0_2) (h : mirror_Check.f a0_0 l0_1 l0_2 a0_3 = some r) :
    Calls Try.prog 23 #[.agg #[.int .i64 a0_0, .slice A0_1 l0_1.length c0_1, .slice A0_2 l0_2.length c0_2, .bool a0_3]] w fun e w' => e = .returned (.int .i64 r) ∧ Below w.heap.size w w' := by
  clear hc0_1 hc0_2
  unfold mirror_Check.f at h
  split at h
  · rename_i u0 u1 m0 m1
    obtain ⟨b1, o1, rfl, k1⟩ := C_bools hr0_1
    obtain ⟨b2, o2, rfl, k2⟩ := C_ints hr0_2
    clear hr0_1 hr0_2
    have H1 := Lib.hid k1
    have H2 := Lib.hid k2
    clear k1 k2
    obtain rfl := Option.some.inj h
    clear h
    cases hv : validB a0_0 u0 u1 m0 m1 a0_3
    · have HV := Lib.hid hv
      clear hv
      go_enter Try.func23, Try.ntmps23
      go_wp2_with fail
      refine (load_two a0_0 b1 o1 c0_1 b2 o2 c0_2 a0_3 u0 u1 m0 m1 _ (two_below H1.out (below_alloc (Below.refl _ _) _)) (two_below H2.out (below_alloc (Below.refl _ _) _))).mono ?_
      rintro e w1 ⟨rfl, hb⟩
      have HB := Lib.hid (below_then (below_alloc (Below.refl _ _) _) (by simp) hb)
      clear hb
      go_wp2_with fail
      refine (valid_calls _ a0_0 u0 u1 m0 m1 a0_3 _ (PBlk.new _ _ _ _ _ _ _)).mono ?_
      rintro e w2 ⟨rfl, n, rfl⟩
      rw [HV.out]
      go_wp2_with fail
      go_ret
      exact ⟨rfl, pw_below_drewN (below_alloc HB.out _) _⟩
    · have HV := Lib.hid hv
      clear hv
      go_enter Try.func23, Try.ntmps23
      go_wp2_with fail
      refine (load_two a0_0 b1 o1 c0_1 b2 o2 c0_2 a0_3 u0 u1 m0 m1 _ (two_below H1.out (below_alloc (Below.refl _ _) _)) (two_below H2.out (below_alloc (Below.refl _ _) _))).mono ?_
      rintro e w1 ⟨rfl, hb⟩
      have HB := Lib.hid (below_then (below_alloc (Below.refl _ _) _) (by simp) hb)
      clear hb
      go_wp2_with fail
      refine (valid_calls _ a0_0 u0 u1 m0 m1 a0_3 _ (PBlk.new _ _ _ _ _ _ _)).mono ?_
      rintro e w2 ⟨rfl, n, rfl⟩
      rw [HV.out]
      go_wp2_with fail
      go_ret
      exact ⟨rfl, pw_below_drewN (below_alloc HB.out _) _⟩
  · rename_i hn
    have HN := Lib.hid (not_two (l1 := l0_1) (l2 := l0_2) fun u0 u1 m0 m1 h => hn u0 u1 m0 m1 h.1 h.2)
    clear hn hr0_1 hr0_2
    obtain rfl := Option.some.inj h
    clear h
    go_enter Try.func23, Try.ntmps23
    go_wp2_with fail
    refine (load_not _ _ _ _ _ _ _ _ _ HN.out).mono ?_
    rintro e w1 ⟨rfl, hb⟩
    have HB := Lib.hid (below_then (below_alloc (Below.refl _ _) _) (by simp) hb)
    clear hb
    go_wp2_with fail
    go_ret
    exact ⟨rfl, below_alloc HB.out _⟩

end Go.Proofs.Ytfjboaanpiceaaa.P
