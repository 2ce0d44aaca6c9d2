import Derived.Test.YtbfhohpbldadbaaV
import Derived.Test.YtbfhohpbldadbaaExtS
import Derived.Test.YtbfhohpbldadbaaPx1
namespace Go.Proofs.Ytbfhohpbldadbaa.P
open Go Go.RowKit Go.Proofs.YtbfhohpbldadbaaW.PrintWords Go.Proofs.YtbfhohpbldadbaaW.PrintLast Go.Proofs.YtbfhohpbldadbaaW.PrintMore
set_option linter.unusedVariables false
set_option linter.unusedSimpArgs false
attribute [local go_sem high] eqA33
def TruePost (w : World) (e : Ending) (w' : World) : Prop := e = .returned (.bool true) ∧ Below w.heap.size w w'
set_option maxHeartbeats 8000000 in
set_option maxRecDepth 100000 in
theorem law8_walk (A : Option Addr) (c : Nat) (l : List S33) (m : S33) (w : World) (hr : Kd.C k33 w A l.length l) (hc : l.length ≤ c) :
    Calls Try.prog 8 #[.slice A l.length c, .agg #[.int .i64 m.f0, .int .i64 m.f1, .int .i64 m.f2, .string m.f3, .int .i64 m.f4]] w (TruePost w) := by
  have HR := Lib.hid hr; have HC := Lib.hid hc
  clear hr hc
  go_enter Try.func8, Try.ntmps8
  have X := Lib.hid (MBlk.new w m)
  go_wp2_with fail
  refine (sane27_calls _).mono ?_
  rintro e w1 ⟨rfl, hb⟩
  replace X := Lib.hid (X.out.below hb)
  have B := Lib.hid (bb (below_one _ _) hb)
  clear hb
  go_wp2_with fail
  obtain ⟨b, hb, hl⟩ := few_ex l []
  refine (crossbarref27_Few.calls 100 A c l none 0 [] b _ (Kd.C_below HR.out B.out) HC.out ⟨rfl, by simp, fun h => absurd h (by simp)⟩ (Nat.le_refl _) (hb 100 (Nat.le_refl _))).mono ?_
  have HL := Lib.hid hl
  clear hb hl
  rintro e w2 ⟨rfl, hb⟩
  replace X := Lib.hid (X.out.below hb)
  replace B := Lib.hid (bb B.out hb)
  clear hb
  cases b
  · go_wp2_with fail
    go_ret
    exact ⟨rfl, B.out⟩
  · have hl40 := Lib.hid (HL.out rfl)
    have x0 := X.out.c0; have x1 := X.out.c1; have x2 := X.out.c2; have x3 := X.out.c3; have x4 := X.out.c4
    cases hp : decide ((60 : Int) < (m.f3.size : Int))
    · go_wp2_with fail
      obtain ⟨r, hr⟩ : ∃ r, r = startF l m := ⟨_, rfl⟩
      have HS := Lib.hid hr
      refine (meter_Start.calls A c l m.f0 m.f1 m.f2 m.f3 m.f4 r.1 r.2 _ (Kd.C_below HR.out B.out) HC.out (by rw [hr]; rfl)).mono ?_
      clear hr
      rintro e w3 ⟨v, rfl, hV, hb⟩
      replace X := Lib.hid (X.out.below hb)
      replace B := Lib.hid (bb B.out hb)
      clear hb x0 x1 x2 x3 x4 hp
      cases hz : (r.2 != 0)
      · have hz0 : r.2 = 0 := by simpa using hz
        rw [hz0]
        clear hz
        obtain ⟨h1, h2⟩ := start_again (l := l) (m := m) (by rw [← HS.out]; exact hz0)
        have hr1 : r.1 = l ++ [m] := by rw [HS.out, h1]
        rw [hr1] at hV
        have hF := Kd.V_map (base' := w.heap.size) hV (fun _ hf => hf)
        obtain ⟨A6, c6, rfl⟩ := Kd.V_slice hV
        have hn : (l ++ [m]).length = l.length + 1 := by simp
        have hcap := (Kd.V_reads' hV).2.1
        have hC := (Kd.V_reads' hV).2.2
        have hFF := Kd.F_take (m := l.length) (Kd.V_at hV).2.2 (by rw [hn]; omega)
        rw [List.take_left' rfl] at hFF
        have HCL := Lib.hid (Kd.F_now hFF)
        rw [hn] at hcap
        have HCAP := Lib.hid hcap; have HCX := Lib.hid hC; have HST := Lib.hid h2; have HZ := Lib.hid hz0; have HN := Lib.hid hn
        clear hV hF hFF hcap hC h1 h2 hz0 hr1
        simp only [hn]
        clear hn
        have x0 := X.out.c0; have x1 := X.out.c1; have x2 := X.out.c2; have x3 := X.out.c3; have x4 := X.out.c4
        go_wp2_with fail
        have hcall := meter_Start.calls A6 c6 (l ++ [m]) m.f0 m.f1 m.f2 m.f3 m.f4 [] 270 w3 HCX.out (by rw [HN.out]; exact HCAP.out) (by show some (startF (l ++ [m]) m) = _; rw [HST.out])
        rw [HN.out] at hcall
        refine hcall.mono ?_
        clear hcall
        rintro e w4 ⟨v, rfl, hV, hb⟩
        obtain ⟨A7, c7, rfl⟩ := Kd.V_slice hV
        replace X := Lib.hid (X.out.below hb)
        replace B := Lib.hid (bb B.out hb)
        replace HCL := Lib.hid (Kd.C_below HCL.out hb)
        replace HCX := Lib.hid (Kd.C_below HCX.out hb)
        clear hb hV x0 x1 x2 x3 x4
        go_wp2_with fail
        obtain ⟨ad, hA, hat⟩ := M_cell HCX.out l.length (by rw [HN.out]; omega) (by rw [HN.out]; omega)
        have hel : (l ++ [m])[l.length]'(by rw [HN.out]; omega) = m := by simp
        rw [hel] at hat
        subst hA
        obtain ⟨i0, hi0, _, _, _⟩ := info_parts info33
        have hcut := cut_to (P := Try.prog) 22 33 .i64 Try.underlying22 hi0 (some ad) (l.length + 1) c6 (l.length : Int) (by omega) (by omega) HCAP.out
        rw [Int.toNat_natCast] at hcut
        have HI0 := Lib.hid hi0
        clear hi0 hel
        have c0 := hat.c0; have c1 := hat.c1; have c2 := hat.c2; have c3 := hat.c3; have c4 := hat.c4
        have x0 := X.out.c0; have x1 := X.out.c1; have x2 := X.out.c2; have x3 := X.out.c3; have x4 := X.out.c4
        have q0 : (0 : Int) ≤ (l.length : Int) := by omega
        have q1 : (l.length : Int) < (l.length : Int) + 1 := by omega
        have q40 := hl40.out
        have QL := Lib.hid (show l.length ≤ 1000000 by omega)
        have QC := Lib.hid (show l.length ≤ c6 by have := HCAP.out; omega)
        have t1 : (((l.length : Int) + 1) == wrap64 ((l.length : Int) + 1)) = true := by rw [wr (by omega) (by omega)]; simp
        have t2 : (((l.length : Int) + 1) == IntKind.i64.wrap ((l.length : Int) + 1)) = true := by rw [i64_w]; exact t1
        clear hat q40
        go_region_held3 (fun w' : World => w'.cell? (ad.add (l.length * 5)) = some (.int .i64 m.f0) ∧ w'.cell? (Addr.mk (ad.add (l.length * 5)).block ((ad.add (l.length * 5)).off + 1) none) = some (.int .i64 m.f1) ∧ w'.cell? (Addr.mk (ad.add (l.length * 5)).block ((ad.add (l.length * 5)).off + 2) none) = some (.int .i64 m.f2) ∧ w'.cell? (Addr.mk (ad.add (l.length * 5)).block ((ad.add (l.length * 5)).off + 3) none) = some (.string m.f3) ∧ w'.cell? (Addr.mk (ad.add (l.length * 5)).block ((ad.add (l.length * 5)).off + 4) none) = some (.int .i64 m.f4) ∧ w'.cell? (Addr.mk w.heap.size 0 none) = some (.int .i64 m.f0) ∧ w'.cell? (Addr.mk w.heap.size 1 none) = some (.int .i64 m.f1) ∧ w'.cell? (Addr.mk w.heap.size 2 none) = some (.int .i64 m.f2) ∧ w'.cell? (Addr.mk w.heap.size 3 none) = some (.string m.f3) ∧ w'.cell? (Addr.mk w.heap.size 4 none) = some (.int .i64 m.f4))
          (exact ⟨c0, c1, c2, c3, c4, x0, x1, x2, x3, x4⟩)
          (first
            | (go_at_call 22; refine (crossbarref27_SameMeters.calls 1000 (some ad) c6 l A c l true _ (Kd.C_below HCL.out (by first | exact Below.refl _ _ | exact below_drew (Below.refl _ _) | exact pw_below_drewN (Below.refl _ _) _)) QC.out (Kd.C_below HR.out (bb B.out (by first | exact Below.refl _ _ | exact below_drew (Below.refl _ _) | exact pw_below_drewN (Below.refl _ _) _))) HC.out (same_self l QL.out (by have := hl40.out; omega))).mono ?_; rintro e w5 ⟨rfl, ⟨nd, rfl⟩⟩)
            | fail "no arm")
        all_goals go_wp2_with fail
        all_goals go_ret
        all_goals exact ⟨rfl, by first | exact pw_below_drewN B.out _ | exact below_drew B.out⟩
      · have HZ := Lib.hid hz
        obtain ⟨he, hor⟩ := start_err l m (hl40.out) (by rw [← HS.out]; simpa using hz)
        rw [← HS.out] at he hor
        rw [he] at hV
        obtain ⟨A6, c6, rfl⟩ := Kd.V_slice hV
        clear hV
        rcases hor with h | h
        · rw [h] at hz ⊢
          clear h
          go_wp2_with fail
          go_ret
          exact ⟨rfl, B.out⟩
        · rw [h] at hz ⊢
          clear h
          go_wp2_with fail
          go_ret
          exact ⟨rfl, B.out⟩
    · go_wp2_with fail
      go_ret
      exact ⟨rfl, B.out⟩
end Go.Proofs.Ytbfhohpbldadbaa.P
