import Derived.Test.YtbfhohpbldadbaaC9
import Derived.Test.YtbfhohpbldadbaaExtS
import Derived.Test.YtbfhohpbldadbaaPx15
namespace Go.Proofs.Ytbfhohpbldadbaa.P
open Go Go.RowKit Go.Proofs.YtbfhohpbldadbaaW.PrintWords Go.Proofs.YtbfhohpbldadbaaW.PrintLast Go.Proofs.YtbfhohpbldadbaaW.PrintMore
set_option linter.unusedVariables false
set_option linter.unusedSimpArgs false
structure AtR (w : World) (a : Addr) (r : S39) : Prop where
  c0 : w.cell? a = some (.int .i64 r.f0)
  c1 : w.cell? ⟨a.block, a.off + 1, none⟩ = some (.int .i64 r.f1)
  c2 : w.cell? ⟨a.block, a.off + 2, none⟩ = some (.int .i64 r.f2)
  c3 : w.cell? ⟨a.block, a.off + 3, none⟩ = some (.string r.f3)
  c4 : w.cell? ⟨a.block, a.off + 4, none⟩ = some (.int .i64 r.f4)
  c5 : w.cell? ⟨a.block, a.off + 5, none⟩ = some (.int .i64 r.f5)
  c6 : w.cell? ⟨a.block, a.off + 6, none⟩ = some (.int .i64 r.f6)
  c7 : w.cell? ⟨a.block, a.off + 7, none⟩ = some (.int .i64 r.f7)
theorem R_cell {w : World} {A : Option Addr} {n : Nat} {xs : List S39} (h : Kd.C k39 w A n xs) (i : Nat) (hi : i < n) (hl : i < xs.length) : ∃ ad, A = some ad ∧ AtR w (ad.add (i * 8)) xs[i] := by
  obtain ⟨ad, hA, h0, h1, h2, h3, h4, h5, h6, h7⟩ := at_T39 h (i : Int) (by omega) (by omega)
  simp only [rd_T39, Int.toNat_natCast, getD_at hl] at h0 h1 h2 h3 h4 h5 h6 h7
  exact ⟨ad, hA, h0, h1, h2, h3, h4, h5, h6, h7⟩
def RBlk (w : World) (g : Nat) (r : S39) : Prop := w.heap[g]? = some (.cells #[.int .i64 r.f0, .int .i64 r.f1, .int .i64 r.f2, .string r.f3, .int .i64 r.f4, .int .i64 r.f5, .int .i64 r.f6, .int .i64 r.f7] 39 (0, 0))
section
variable {w w' : World} {g : Nat} {r : S39}
theorem RBlk.c0 (h : RBlk w g r) : w.cell? ⟨g, 0, none⟩ = some (.int .i64 r.f0) := (cell_of_row w g 0 _ 39 (0, 0) h).trans rfl
theorem RBlk.c1 (h : RBlk w g r) : w.cell? ⟨g, 1, none⟩ = some (.int .i64 r.f1) := (cell_of_row w g 1 _ 39 (0, 0) h).trans rfl
theorem RBlk.c2 (h : RBlk w g r) : w.cell? ⟨g, 2, none⟩ = some (.int .i64 r.f2) := (cell_of_row w g 2 _ 39 (0, 0) h).trans rfl
theorem RBlk.c3 (h : RBlk w g r) : w.cell? ⟨g, 3, none⟩ = some (.string r.f3) := (cell_of_row w g 3 _ 39 (0, 0) h).trans rfl
theorem RBlk.c4 (h : RBlk w g r) : w.cell? ⟨g, 4, none⟩ = some (.int .i64 r.f4) := (cell_of_row w g 4 _ 39 (0, 0) h).trans rfl
theorem RBlk.c5 (h : RBlk w g r) : w.cell? ⟨g, 5, none⟩ = some (.int .i64 r.f5) := (cell_of_row w g 5 _ 39 (0, 0) h).trans rfl
theorem RBlk.c6 (h : RBlk w g r) : w.cell? ⟨g, 6, none⟩ = some (.int .i64 r.f6) := (cell_of_row w g 6 _ 39 (0, 0) h).trans rfl
theorem RBlk.below (h : RBlk w g r) (hb : Below w.heap.size w w') : RBlk w' g r := (hb.block g (heap_lt h)).trans h
theorem RBlk.new (w : World) (r : S39) : RBlk (w.alloc (.cells #[.int .i64 r.f0, .int .i64 r.f1, .int .i64 r.f2, .string r.f3, .int .i64 r.f4, .int .i64 r.f5, .int .i64 r.f6, .int .i64 r.f7] 39)) w.heap.size r := heap_alloc_new w _
end
/-- Between two rounds of the advances. -/
structure L9 (bs : List S110) (A1 : Option Addr) (c1 : Nat) (m : S33) (n : Nat) (w W : World) (v8 v11 : Value) (now : Int) (j : Nat) : Prop where
  jn : j ≤ n
  n0 : m.f4 ≤ now
  n1 : now ≤ m.f4 + 65535 * j
  meters : ∃ A c, v8 = .slice A 1 c ∧ 1 ≤ c ∧ Kd.C k33 W A 1 [cutM bs now m]
  recs : k39.R 39 W w.heap.size (fun _ => True) v11 (cutR bs now m)
  few : (cutR bs now m).length ≤ 48 * j
  low : Below w.heap.size w W
  t : Bx W w.heap.size 25 (.slice A1 bs.length c1)
  m : MBlk W (w.heap.size + 1) m
set_option maxHeartbeats 8000000 in
set_option maxRecDepth 100000 in
theorem law9_walk (A1 : Option Addr) (c1 : Nat) (bs : List S110) (m : S33) (A2 : Option Addr) (c2 : Nat) (ws : List Int) (w : World) (hr1 : Kd.C k110 w A1 bs.length bs) (hc1 : bs.length ≤ c1) (hr2 : Kd.C (Kd.int .i64) w A2 ws.length ws) (hc2 : ws.length ≤ c2) :
    Calls Try.prog 9 #[.agg #[.slice A1 bs.length c1], .agg #[.int .i64 m.f0, .int .i64 m.f1, .int .i64 m.f2, .string m.f3, .int .i64 m.f4], .slice A2 ws.length c2] w (fun e w' => e = .returned (.bool true) ∧ Below w.heap.size w w') := by
  have HR1 := Lib.hid hr1; have HC1 := Lib.hid hc1; have HR2 := Lib.hid hr2; have HC2 := Lib.hid hc2
  clear hr1 hc1 hr2 hc2
  go_enter Try.func9, Try.ntmps9
  go_wp2_with fail
  obtain ⟨w1, hw1⟩ : ∃ w1, w1 = (w.alloc (.cells #[.slice A1 bs.length c1] 25)).alloc (.cells #[.int .i64 m.f0, .int .i64 m.f1, .int .i64 m.f2, .string m.f3, .int .i64 m.f4] 33) := ⟨_, rfl⟩
  rw [← hw1]
  have B := Lib.hid (show Below w.heap.size w w1 by rw [hw1]; exact al (below_one _ _) _)
  have T := Lib.hid (show Bx w1 w.heap.size 25 (.slice A1 bs.length c1) by rw [hw1]; exact (Bx.new w 25 _).below (below_one _ _))
  have X := Lib.hid (show MBlk w1 (w.heap.size + 1) m by rw [hw1]; have h := MBlk.new (w.alloc (.cells #[.slice A1 bs.length c1] 25)) m; rwa [World.size_alloc] at h)
  clear hw1
  refine (sane27_calls _).mono ?_
  rintro e w2 ⟨rfl, hb⟩
  replace X := Lib.hid (X.out.below hb)
  replace T := Lib.hid (T.out.below hb)
  replace B := Lib.hid (bb B.out hb)
  clear hb
  have x0 := X.out.c0; have x1 := X.out.c1; have x2 := X.out.c2; have x3 := X.out.c3; have x4 := X.out.c4
  have q0 := fun o => (T.out.below (below_one w2 o)).c0
  go_wp2_with fail
  obtain ⟨b, hfw, hl⟩ := few_ex [m] bs
  refine (crossbarref27_Few.calls 100 _ _ [m] A1 c1 bs b _ (C1M w2 m) (Nat.le_refl _) (Kd.C_below HR1.out (bb B.out (below_one _ _))) HC1.out (hfw 100 (Nat.le_refl _))).mono ?_
  clear hfw hl
  rintro e w3 ⟨rfl, hb⟩
  replace X := Lib.hid ((X.out.below (below_one _ _)).below hb)
  replace T := Lib.hid ((T.out.below (below_one _ _)).below hb)
  replace B := Lib.hid (bb (bb B.out (below_one _ _)) hb)
  clear hb x0 x1 x2 x3 x4 q0
  have q0 := T.out.c0
  cases b
  · go_wp2_with fail
    go_ret
    exact ⟨rfl, B.out⟩
  · cases hw : decide ((20 : Int) < (ws.length : Int))
    · have HW := Lib.hid (of_decide_eq_false hw)
      go_wp2_with fail
      refine (tariff_Check.calls 26 A1 c1 bs (chkB bs) _ (Kd.C_below HR1.out B.out) HC1.out (check_eq bs 26 (Nat.le_refl _))).mono ?_
      rintro e w4 ⟨rfl, hb⟩
      replace X := Lib.hid (X.out.below hb)
      replace T := Lib.hid (T.out.below hb)
      replace B := Lib.hid (bb B.out hb)
      clear hb q0 hw
      cases hck : (chkB bs != 0)
      · have HCK := Lib.hid (show chkB bs = 0 by simpa using hck)
        have x0 := X.out.c0; have x1 := X.out.c1; have x2 := X.out.c2; have x3 := X.out.c3; have x4 := X.out.c4
        go_wp2_with fail
        obtain ⟨r, hr⟩ : ∃ r, r = startF [] m := ⟨_, rfl⟩
        have HS := Lib.hid hr
        refine (meter_Start.calls none 0 [] m.f0 m.f1 m.f2 m.f3 m.f4 r.1 r.2 _ ⟨rfl, by simp, fun h => absurd h (by simp)⟩ (Nat.le_refl _) (by rw [hr]; rfl)).mono ?_
        clear hr
        rintro e w5 ⟨v, rfl, hV, hb⟩
        replace X := Lib.hid (X.out.below hb)
        replace T := Lib.hid (T.out.below hb)
        replace B := Lib.hid (bb B.out hb)
        clear hb x0 x1 x2 x3 x4 hck
        rcases start_nil m with ⟨s0, s1, s2⟩ | ⟨s0, s1⟩
        · rw [← HS.out] at s0 s1
          rw [s1] at hV
          obtain ⟨A6, c6, rfl⟩ := Kd.V_slice hV
          have HV := Lib.hid (Kd.V_reads' hV)
          have HOK := Lib.hid s2
          rw [s0]
          clear s0 s1 s2 hV HS
          have x0 := X.out.c0; have x1 := X.out.c1; have x2 := X.out.c2; have x3 := X.out.c3; have x4 := X.out.c4
          cases hs : decide ((549755813888 : Int) < m.f4)
          · have HSI := Lib.hid (of_decide_eq_false hs)
            go_wp2_with fail
            go_loopw [8, 10, 11, 12] (fun v8 v10 v11 i W => ∃ (j : Nat) (now : Int), i = .int .i64 j ∧ v10 = .int .i64 now ∧ L9 bs A1 c1 m ws.length w W v8 v11 now j) (fun _ _ _ i _ => ws.length - (intOf i).toNat)
            case atStart =>
              have hc := cut_start (bs := bs) m
              exact ⟨0, m.f4, rfl, rfl, ⟨Nat.zero_le _, Int.le_refl _, by omega, ⟨A6, c6, rfl, HV.out.2.1, by rw [hc.1]; exact HV.out.2.2⟩, by rw [hc.2]; exact ⟨fun _ _ => trivial, OwnRow.none_ _ _ _ _ _⟩, by rw [hc.2]; exact Nat.zero_le _, B.out, T.out, X.out⟩⟩
            case round =>
              obtain ⟨j, now, rfl, rfl, hL⟩ := hrel
              have HL := Lib.hid hL
              clear hL B T X HV x0 x1 x2 x3 x4
              by_cases hlt : j < ws.length
              · have HLT := Lib.hid hlt
                obtain ⟨A8, c8, rfl, h8, hC8⟩ := HL.out.meters
                have H8 := Lib.hid h8; have HC8 := Lib.hid hC8
                have q0 := HL.out.t.c0
                have i0 : (0 : Int) ≤ (j : Int) := by omega
                have i1 : (j : Int) < (ws.length : Int) := by omega
                clear h8 hC8
                obtain ⟨ad, hA, hat⟩ := I_cell (Kd.C_below HR2.out HL.out.low) j hlt hlt
                subst hA
                obtain ⟨x, hx⟩ : ∃ x, x = ws[j]'hlt := ⟨_, rfl⟩
                rw [← hx] at hat
                clear hx
                go_wp2_with fail
                obtain ⟨N, hN⟩ : ∃ N, N = now + Go.bits .and .i64 x 65535 := ⟨_, rfl⟩
                have h16 := and_16 x
                have hw9 := HW.out
                have htm := time_of_ok HOK.out
                have hn0 := HL.out.n0
                have hn1 := HL.out.n1
                have hNr : now ≤ N ∧ N ≤ now + 65535 ∧ N ≤ 1099511627776 := by have := HSI.out; omega
                obtain ⟨ha1, ha2, ha3⟩ := adv_9 HCK.out HOK.out hn0 hNr.1 hNr.2.1 hNr.2.2
                rw [← hN, wrap_id (n := N) (by omega) (by omega)]
                have HN := Lib.hid hNr; have HA2 := Lib.hid ha2; have HA3 := Lib.hid ha3
                refine (meter_Advance.calls A8 c8 [cutM bs now m] A1 c1 bs N [cutM bs N m] (cutR bs N (cutM bs now m)) 0 _ HC8.out H8.out (Kd.C_below HR1.out HL.out.low) HC1.out (by unfold meter_Advance.f; rw [if_pos (by simp), ha1])).mono ?_
                clear hN h16 hw9 htm hn0 hn1 hNr ha1 ha2 ha3 hat q0
                rintro e w6 ⟨v0, v1, rfl, hV0, hV1, hb⟩
                obtain ⟨Ax, cx, rfl⟩ := Kd.V_slice hV0
                obtain ⟨Ay, cy, rfl⟩ := Kd.V_slice hV1
                have HV0 := Lib.hid hV0; have HV1 := Lib.hid hV1
                have HB6 := Lib.hid hb
                clear hV0 hV1 hb
                have hfew := HL.out.few
                have hm20 : j ≤ 20 := by have := HW.out; omega
                have HFB := Lib.hid (show ((cutR bs now m).length + (cutR bs N (cutM bs now m)).length) * 72 ≤ 140737488355328 by have := HA3.out; omega)
                clear hfew hm20
                go_wp2_with ((with_reducible refine gate_builtin (b := .append) (xs := #[.tmp 102, .tmp 103]) rfl ?_); at_builtin; refine Kd.R_append_rows k39 (w0 := w) w.heap.size rfl (.tmp 102) (.tmp 103) 28 39 (.agg #[(.int .i64 0), (.int .i64 0), (.int .i64 0), (.string ⟨#[]⟩), (.int .i64 0), (.int .i64 0), (.int .i64 0), (.int .i64 0)]) 72 rfl Try.underlying28 info39 rfl (by decide) (by omega) u11 (cutR bs now m) (cutR bs N (cutM bs now m)) Ay _ cy (fun _ => True) (fun _ => False) rfl rfl (Kd.R_below HL.out.recs HB6.out) (Kd.V_reads' HV1.out).2.2 (fun _ _ h => h) (fun _ h => h.elim) (fun _ _ => trivial) (bb HL.out.low HB6.out) (Nat.le_trans HL.out.low.size HB6.out.size) HFB.out ?_; intro v3 w7 ho7 hb7 hg7 hat7)
                go_roundw
                case rel =>
                  have hrb := Kd.R_below HL.out.recs HB6.out
                  have hV' := Kd.V_grown HV0.out hg7 (fun k hk hne => by have := ((Kd.R_bound HL.out.recs).1 k hne.symm).2.2; omega)
                  have hn0 := HL.out.n0
                  have hn1 := HL.out.n1
                  have hfew := HL.out.few
                  have hn := HN.out
                  have ha3 := HA3.out
                  have hw9 := HW.out
                  have hlt := HLT.out
                  exact ⟨j + 1, N, (show Value.int .i64 (wrap64 ((j : Int) + 1)) = Value.int .i64 ((j + 1 : Nat) : Int) by rw [wrap_id (n := (j : Int) + 1) (by omega) (by omega)]; rfl), rfl, ⟨HLT.out, by omega, by omega, ⟨Ax, cx, rfl, (Kd.V_reads' hV').2.1, (Kd.V_reads' hV').2.2⟩, by rw [HA2.out]; exact ho7, by rw [HA2.out, List.length_append]; omega, hb7, blk_grown (HL.out.t.below HB6.out) hg7 (Kd.R_ne hrb (HL.out.t.below HB6.out) (by decide)), blk_grown (HL.out.m.below HB6.out) hg7 (Kd.R_ne hrb (HL.out.m.below HB6.out) (by decide))⟩⟩
                case measure =>
                  have hlt := HLT.out
                  have hw9 := HW.out
                  rw [wrap_id (n := (j : Int) + 1) (by omega) (by omega)]
                  simp only [intOf]
                  omega
              · have hj : j = ws.length := by have := HL.out.jn; omega
                obtain ⟨A8, c8, rfl, h8, hC8⟩ := HL.out.meters
                have H8 := Lib.hid h8; have HC8 := Lib.hid hC8
                have HJ := Lib.hid hj
                have q0 := HL.out.t.c0; have x0 := HL.out.m.c0
                have i1 : ¬ ((j : Int) < (ws.length : Int)) := by omega
                clear h8 hC8 hlt hj
                go_wp2_with fail
                have hn0 := HL.out.n0
                have hn1 := HL.out.n1
                have hw9 := HW.out
                have htm := time_of_ok HOK.out
                have hsi := HSI.out
                have hj := HJ.out
                have hnM : now ≤ 1099511627776 := by omega
                obtain ⟨hs1, hs2, hs3⟩ := stop_9 HCK.out HOK.out hn0 hnM
                have HS2 := Lib.hid hs2; have HS3 := Lib.hid hs3; have HNM := Lib.hid hnM
                refine (meter_Stop.calls A8 c8 [cutM bs now m] A1 c1 bs m.f0 now [] (stopRecs bs now (cutM bs now m)) 0 _ HC8.out H8.out (Kd.C_below HR1.out HL.out.low) HC1.out (by unfold meter_Stop.f; rw [if_pos (by simp), hs1])).mono ?_
                clear hn0 hn1 hw9 htm hsi hj hnM hs1 hs2 hs3 q0 x0 i1
                rintro e w6 ⟨v0, v1, rfl, hV0, hV1, hb⟩
                obtain ⟨Ax, cx, rfl⟩ := Kd.V_slice hV0
                obtain ⟨Ay, cy, rfl⟩ := Kd.V_slice hV1
                have HV1 := Lib.hid hV1
                have HB6 := Lib.hid hb
                clear hV0 hV1 hb
                have T6 := Lib.hid (HL.out.t.below HB6.out); have X6 := Lib.hid (HL.out.m.below HB6.out)
                have hfew := HL.out.few
                have hm20 : j ≤ 20 := by have := HW.out; have := HJ.out; omega
                have HFB := Lib.hid (show ((cutR bs now m).length + (stopRecs bs now (cutM bs now m)).length) * 72 ≤ 140737488355328 by have := HS3.out; omega)
                clear hfew hm20
                go_wp2_with ((with_reducible refine gate_builtin (b := .append) (xs := #[.tmp 122, .tmp 123]) rfl ?_); at_builtin; refine Kd.R_append_rows k39 (w0 := w) w.heap.size rfl (.tmp 122) (.tmp 123) 28 39 (.agg #[(.int .i64 0), (.int .i64 0), (.int .i64 0), (.string ⟨#[]⟩), (.int .i64 0), (.int .i64 0), (.int .i64 0), (.int .i64 0)]) 72 rfl Try.underlying28 info39 rfl (by decide) (by omega) u11 (cutR bs now m) (stopRecs bs now (cutM bs now m)) Ay _ cy (fun _ => True) (fun _ => False) rfl rfl (Kd.R_below HL.out.recs HB6.out) (Kd.V_reads' HV1.out).2.2 (fun _ _ h => h) (fun _ h => h.elim) (fun _ _ => trivial) (bb HL.out.low HB6.out) (Nat.le_trans HL.out.low.size HB6.out.size) HFB.out ?_; intro v3 w7 ho7 hb7 hg7 hat7; have T7 := Lib.hid (show Bx w7 w.heap.size 25 (.slice A1 bs.length c1) from blk_grown T6.out hg7 (Kd.R_ne (Kd.R_below HL.out.recs HB6.out) T6.out (by decide))); have X7 := Lib.hid (show MBlk w7 (w.heap.size + 1) m from blk_grown X6.out hg7 (Kd.R_ne (Kd.R_below HL.out.recs HB6.out) X6.out (by decide))); have y4 := X7.out.c4)
                obtain ⟨RS, hRS⟩ : ∃ RS, RS = stopRecs bs now m := ⟨_, rfl⟩
                rw [← HS2.out, ← hRS] at ho7
                have hrl : RS.length ≤ 961 := by
                  have := congrArg List.length HS2.out
                  rw [List.length_append, ← hRS] at this
                  have := HS3.out; have := HL.out.few; have := HW.out; have := HJ.out
                  omega
                have htm := time_of_ok HOK.out
                have hcov : Cover bs m m.f4 RS now := by rw [hRS]; exact cover_stop HCK.out HNM.out htm.1 HL.out.n0
                have hsum : sumU m.f0 m.f1 RS = untilV bs now - untilV bs m.f4 ∧ sumS m.f0 m.f1 RS = now - m.f4 := by rw [hRS]; exact stop_sum HCK.out HNM.out htm.1 HL.out.n0
                obtain ⟨A3, c3, rfl⟩ := Kd.R_slice ho7
                have HC3 := Lib.hid (Kd.R_reads' ho7)
                have B7 := Lib.hid hb7
                have HRL := Lib.hid hrl; have HCOV := Lib.hid hcov; have HSUM := Lib.hid hsum; have HN0 := Lib.hid HL.out.n0
                clear hRS ho7 hrl hcov hsum hb7 hg7 hat7 htm y4 HV1 HFB HS2 HS3 HL HB6 T6 X6 H8 HC8
                go_loopw [19, 20] (fun v19 v20 W => ∃ (q : Nat) (cur : Int), v20 = .int .i64 q ∧ v19 = .int .i64 cur ∧ q ≤ RS.length ∧ Cover bs m cur (RS.drop q) now ∧ Below w7.heap.size w7 W) (fun _ i _ => RS.length - (intOf i).toNat)
                case atStart => exact ⟨0, m.f4, rfl, rfl, Nat.zero_le _, by rw [List.drop_zero]; exact HCOV.out, Below.refl _ _⟩
                case round =>
                  obtain ⟨q, cur, rfl, rfl, hq, hcv, hbw⟩ := hrel
                  have HBW := Lib.hid hbw; have HQ := Lib.hid hq; have HCV := Lib.hid hcv
                  clear hq hcv hbw HCOV
                  have TW := Lib.hid (T7.out.below HBW.out); have XW := Lib.hid (X7.out.below HBW.out)
                  by_cases hlt : q < RS.length
                  · have HLT := Lib.hid hlt
                    obtain ⟨ad, hA, hat⟩ := R_cell (Kd.C_below HC3.out.2.2 HBW.out) q hlt hlt
                    subst hA
                    have hcv := HCV.out
                    rw [List.drop_eq_getElem_cons hlt] at hcv
                    obtain ⟨h4, h9, hcv⟩ := hcv
                    have HCV2 := Lib.hid hcv
                    obtain ⟨r, hr⟩ : ∃ r, r = RS[q]'hlt := ⟨_, rfl⟩
                    rw [← hr] at hat h4 h9 HCV2
                    obtain ⟨r0, r1, r2, r3, r4, r5, r6, r7⟩ := r
                    have e0 : r0 = m.f0 := h9.g0
                    have e1 : r1 = m.f1 := h9.g1
                    have e2 : r2 = m.f2 := h9.g2
                    have e3 : r3 = m.f3 := h9.g3
                    have e6 : rtB bs r4 = r6 := h9.rate
                    have h4' : r4 = cur := h4
                    clear hr h4 hcv
                    subst e0 e1 e2 e3 e6 h4'
                    have H9 := Lib.hid h9
                    have c0 := hat.c0; have c1' := hat.c1; have c2' := hat.c2; have c3' := hat.c3; have c4 := hat.c4; have c5 := hat.c5; have c6' := hat.c6; have c7 := hat.c7
                    have i0 : (0 : Int) ≤ (q : Int) := by omega
                    have i1 : (q : Int) < (RS.length : Int) := by omega
                    have q0 := fun o => (TW.out.below (below_one wr o)).c0
                    obtain ⟨rr, hrr⟩ : ∃ rr : S39, rr = ⟨m.f0, m.f1, m.f2, m.f3, r4, r5, rtB bs r4, r7⟩ := ⟨_, rfl⟩
                    have y4 : (wr.alloc (.cells #[.int .i64 m.f0, .int .i64 m.f1, .int .i64 m.f2, .string m.f3, .int .i64 r4, .int .i64 r5, .int .i64 (rtB bs r4), .int .i64 r7] 39)).cell? ⟨wr.heap.size, 4, none⟩ = some (.int .i64 r4) := by have := (RBlk.new wr rr).c4; rw [hrr] at this; exact this
                    have RB := Lib.hid (show RBlk (wr.alloc (.cells #[.int .i64 m.f0, .int .i64 m.f1, .int .i64 m.f2, .string m.f3, .int .i64 r4, .int .i64 r5, .int .i64 (rtB bs r4), .int .i64 r7] 39)) wr.heap.size rr by rw [hrr]; exact RBlk.new wr ⟨m.f0, m.f1, m.f2, m.f3, r4, r5, rtB bs r4, r7⟩)
                    have HRR := Lib.hid hrr
                    clear h9 hat hlt hrr
                    go_wp2_with fail
                    have hup : r4 < r5 := H9.out.up
                    have ht1 : r5 ≤ 1099511627776 := H9.out.t1
                    have ht0 : 0 ≤ r4 := H9.out.t0
                    refine (tariff_Rate.calls 26 A1 c1 bs r4 (rtB bs r4) 0 _ (Kd.C_below HR1.out (bb (bb B7.out HBW.out) (below_one _ _))) HC1.out (rate_eq HCK.out (Nat.le_refl _) ht0 (by omega))).mono ?_
                    rintro e w8 ⟨rfl, hb⟩
                    replace RB := Lib.hid (RB.out.below hb)
                    have T8 := Lib.hid ((TW.out.below (below_one wr _)).below hb)
                    have X8 := Lib.hid ((XW.out.below (below_one wr _)).below hb)
                    have B8 := Lib.hid (bb HBW.out (bb (below_one wr _) hb))
                    clear hb y4 q0 c0 c1' c2' c3' c4 c5 c6' c7 TW XW i0 i1
                    have y5 : w8.cell? ⟨wr.heap.size, 5, none⟩ = some (.int .i64 r5) := by have := RB.out.c5; rw [HRR.out] at this; exact this
                    have q0 := T8.out.c0
                    go_wp2_with fail
                    refine (tariff_Rate.calls 26 A1 c1 bs (r5 - 1) (rtB bs r4) 0 _ (Kd.C_below HR1.out (bb B7.out B8.out)) HC1.out (by rw [rate_eq HCK.out (Nat.le_refl _) (by omega) (by omega)]; exact congrArg (fun z => some (z, (0 : Int))) H9.out.rate')).mono ?_
                    rintro e w9 ⟨rfl, hb⟩
                    replace RB := Lib.hid (RB.out.below hb)
                    replace T8 := Lib.hid (T8.out.below hb)
                    replace X8 := Lib.hid (X8.out.below hb)
                    replace B8 := Lib.hid (bb B8.out hb)
                    clear hb y5 q0
                    have hRB := RB.out
                    rw [HRR.out] at hRB
                    have y0 := hRB.c0; have y1 := hRB.c1; have y2 := hRB.c2; have y3 := hRB.c3; have y4 := hRB.c4; have y5 := hRB.c5; have y6 := hRB.c6
                    have x0 := X8.out.c0; have x1 := X8.out.c1; have x2 := X8.out.c2; have x3 := X8.out.c3
                    have hle : decide (r5 ≤ r4) = false := decide_eq_false (by omega)
                    have HUP := Lib.hid hup; have HT1 := Lib.hid ht1; have HT0 := Lib.hid ht0
                    clear hRB hup ht1 ht0
                    go_wp2_with fail
                    have hrl := HRL.out
                    have hlt := HLT.out
                    go_roundw
                    case rel => exact ⟨q + 1, r5, (show Value.int .i64 (wrap64 ((q : Int) + 1)) = Value.int .i64 ((q + 1 : Nat) : Int) by rw [wrap_id (n := (q : Int) + 1) (by omega) (by omega)]; rfl), rfl, hlt, HCV2.out, B8.out⟩
                    case measure =>
                      rw [wrap_id (n := (q : Int) + 1) (by omega) (by omega)]
                      simp only [intOf]
                      omega
                  · have hq : q = RS.length := by have := HQ.out; omega
                    have hcv := HCV.out
                    rw [hq, List.drop_length] at hcv
                    have hcur : cur = now := hcv
                    have HQ2 := Lib.hid hq
                    have i1 : ¬ ((q : Int) < (RS.length : Int)) := by omega
                    have q0 := TW.out.c0; have x4 := XW.out.c4; have x0 := XW.out.c0; have x1 := XW.out.c1
                    clear hq hcv hlt
                    subst hcur
                    have htm := time_of_ok HOK.out
                    have hn0 := HN0.out
                    have hud := until_diff HCK.out htm.1 hn0
                    have hnm := HNM.out
                    go_wp2_with fail
                    refine (tariff_Price.calls 30 A1 c1 bs m.f4 cur (untilV bs cur - untilV bs m.f4) 0 _ (Kd.C_below HR1.out (bb B7.out HBW.out)) HC1.out (price_eq HCK.out (Nat.le_refl _) htm.1 hn0 hnm)).mono ?_
                    rintro e w8 ⟨rfl, hb⟩
                    have X8 := Lib.hid (XW.out.below hb)
                    have B8 := Lib.hid (bb HBW.out hb)
                    clear hb q0 x4 x0 x1
                    have x0 := X8.out.c0; have x1 := X8.out.c1
                    go_wp2_with fail
                    refine (meter_Total.calls 1000 A3 c3 RS m.f0 m.f1 (untilV bs cur - untilV bs m.f4) (cur - m.f4) _ (Kd.C_below HC3.out.2.2 B8.out) HC3.out.2.1 (by rw [total_eq RS _ _ (by have := HRL.out; omega) (by have := HRL.out; omega), HSUM.out.1, HSUM.out.2, wrap_id (by omega) (by omega), wrap_id (by omega) (by omega)])).mono ?_
                    rintro e w9 ⟨rfl, hb⟩
                    replace X8 := Lib.hid (X8.out.below hb)
                    replace B8 := Lib.hid (bb B8.out hb)
                    clear hb x0 x1
                    have x4 := X8.out.c4
                    go_wp2_with fail
                    go_ret
                    exact ⟨by first | rfl | simp, bb B7.out B8.out⟩
          · go_wp2_with fail
            go_ret
            exact ⟨rfl, B.out⟩
        · rw [← HS.out] at s0 s1
          rw [s1] at hV
          obtain ⟨A6, c6, rfl⟩ := Kd.V_slice hV
          rw [s0]
          clear hV
          go_wp2_with fail
          go_ret
          exact ⟨rfl, B.out⟩
      · go_wp2_with fail
        go_ret
        exact ⟨rfl, B.out⟩
    · go_wp2_with fail
      go_ret
      exact ⟨rfl, B.out⟩
end Go.Proofs.Ytbfhohpbldadbaa.P
