import Derived.Test.YtbfhohpbldadbaaQ15
namespace Go.Proofs.Ytbfhohpbldadbaa.P
open Go Go.RowKit Go.Proofs.YtbfhohpbldadbaaW.PrintWords Go.Proofs.YtbfhohpbldadbaaW.PrintLast Go.Proofs.YtbfhohpbldadbaaW.PrintMore
set_option linter.unusedVariables false
set_option linter.unusedSimpArgs false
set_option maxHeartbeats 16000000 in
set_option maxRecDepth 100000 in
theorem law15_walk (A0 : Option Addr) (c0 : Nat) (A3 : Option Addr) (c3 : Nat) (c : S61) (A1 : Option Addr) (c1 : Nat) (b : S83) (now : Int) (w : World)
    (hr : Kd.C kL w A0 c.f0.length c.f0) (hc0 : c.f0.length ≤ c0) (hr3 : Kd.C k39 w A3 c.f3.length c.f3) (hc3 : c.f3.length ≤ c3) (hin : c.f3.length ≤ 2000000000000) (hout : ∀ l ∈ c.f0, l.length ≤ 2000000000000) (hr1 : Kd.C k39 w A1 b.f2.length b.f2) (hc1 : b.f2.length ≤ c1) :
    Calls Try.prog 15 #[vE A0 c0 A3 c3 c, .agg #[.int .i64 b.f0, .bool b.f1, .slice A1 b.f2.length c1], .int .i64 now] w (fun e w' => e = .returned (.bool true) ∧ Below w.heap.size w w') := by
  unfold vE
  have HIN := Lib.hid hin; have HOUT := Lib.hid hout; have HR1 := Lib.hid hr1; have HC1 := Lib.hid hc1
  have HNW := Lib.hid ((HX.new w hr hc0 hr3 hc3).below (below_one _ (.cells #[.int .i64 b.f0, .bool b.f1, .slice A1 b.f2.length c1] 83)))
  clear hr hr3 hin hout hr1 hc1 hc0 hc3
  go_enter Try.func15, Try.ntmps15
  go_wp2_with fail
  obtain ⟨w1, hw1⟩ : ∃ w1, w1 = (w.alloc (.cells #[.slice A0 c.f0.length c0, .int .i64 c.f1, .int .i64 c.f2, .slice A3 c.f3.length c3, .bool c.f4, .int .i64 c.f5] 61)).alloc (.cells #[.int .i64 b.f0, .bool b.f1, .slice A1 b.f2.length c1] 83) := ⟨_, rfl⟩
  rw [← hw1]
  have X := Lib.hid (show BBlk w1 (w.heap.size + 1) b.f0 b.f1 (.slice A1 b.f2.length c1) by rw [hw1]; have h := BBlk.new (w.alloc (.cells #[.slice A0 c.f0.length c0, .int .i64 c.f1, .int .i64 c.f2, .slice A3 c.f3.length c3, .bool c.f4, .int .i64 c.f5] 61)) b.f0 b.f1 (.slice A1 b.f2.length c1); rwa [World.size_alloc] at h)
  obtain ⟨t4, ht4⟩ : ∃ t4, t4 = w.heap.size + 1 := ⟨_, rfl⟩
  rw [← ht4] at X
  rw [← ht4]
  clear ht4
  obtain ⟨t3, ht3⟩ : ∃ t3, t3 = w.heap.size := ⟨_, rfl⟩
  have H := Lib.hid (show HX w1 t3 A0 c0 A3 c3 c by rw [hw1, ht3]; exact HNW.out)
  have B := Lib.hid (show Below w.heap.size w w1 by rw [hw1]; exact al (below_one _ _) _)
  rw [← ht3]
  clear hw1 HNW ht3
  refine (sane30_calls w1).mono ?_
  rintro e w2 ⟨rfl, hb⟩
  replace H := Lib.hid (H.out.below hb); replace X := Lib.hid (X.out.below hb); replace B := Lib.hid (bb B.out hb)
  clear hb
  have h0 := H.out.blk.c0; have h1 := H.out.blk.c1; have h2 := H.out.blk.c2; have h3 := H.out.blk.c3; have h4 := H.out.blk.c4; have h5 := H.out.blk.c5
  go_wp2_with fail
  obtain ⟨r, hfw⟩ := few30_ex c
  refine (crossbarref30_Few.calls 100 A0 c0 c.f0 c.f1 c.f2 A3 c3 c.f3 c.f4 c.f5 r w2 H.out.o H.out.lo H.out.i H.out.li hfw).mono ?_
  have HFEW := Lib.hid hfw
  clear hfw
  rintro e w3 ⟨rfl, hb⟩
  replace H := Lib.hid (H.out.below hb); replace X := Lib.hid (X.out.below hb); replace B := Lib.hid (bb B.out hb)
  clear hb h0 h1 h2 h3 h4 h5
  have h0 := H.out.blk.c0; have h1 := H.out.blk.c1; have h2 := H.out.blk.c2; have h3 := H.out.blk.c3; have h4 := H.out.blk.c4; have h5 := H.out.blk.c5
  have b0 := X.out.c0; have b1 := X.out.c1; have b2 := X.out.c2
  cases r
  · go_wp2_with fail
    go_ret
    exact ⟨rfl, B.out⟩
  · have HL := Lib.hid (few30_true HIN.out HOUT.out HFEW.out)
    by_cases hf : (1100 : Int) < b.f2.length
    · go_wp2_with fail
      go_ret
      exact ⟨rfl, B.out⟩
    · have HF := Lib.hid hf
      go_wp2_with fail
      have hoc := recv_calls A0 c0 A3 c3 c A1 c1 b now w3 H.out.o H.out.i (by have := HL.out; omega) (Kd.C_below HR1.out B.out)
      rcases recv_cases c b now with ⟨er, heq, hne⟩ | ⟨x, heq, hok⟩
      · rw [heq] at hoc
        refine hoc.mono ?_
        clear hoc heq
        rintro e w4 ⟨v, rfl, hE, hb⟩
        obtain ⟨A4, c4, A5, c5, rfl, hO, lO, hI, lI⟩ := hE.outx
        have hz : (er != 0) = true := by simpa using hne
        replace B := Lib.hid (bb B.out hb)
        clear hb hE hO lO hI lI h0 h1 h2 h3 h4 h5 hne hf b0 b1 b2
        simp only [z61, List.length_nil]
        go_wp2_with fail
        go_ret
        exact ⟨by simp, al B.out _⟩
      · rw [heq] at hoc
        refine hoc.mono ?_
        clear hoc
        rintro e w4 ⟨v, rfl, hE, hb⟩
        obtain ⟨A4, c4, A5, c5, rfl, hO, lO, hI, lI⟩ := hE.outx
        replace H := Lib.hid (H.out.below hb); replace X := Lib.hid (X.out.below hb); replace B := Lib.hid (bb B.out hb)
        have HNX := Lib.hid (HX.new w4 hO lO hI lI)
        have OK := Lib.hid hok
        have HQ := Lib.hid heq
        obtain ⟨tt, ht, htl⟩ := hok.pre
        have HXL := Lib.hid (show x.f3.length ≤ 6000 by rw [ht, List.length_append]; have := HL.out; have := HF.out; omega)
        have PRE := Lib.hid ht; have TL := Lib.hid htl
        have XN := Lib.hid (X.out.below (below_one w4 (.cells #[.slice A4 x.f0.length c4, .int .i64 x.f1, .int .i64 x.f2, .slice A5 x.f3.length c5, .bool x.f4, .int .i64 x.f5] 61)))
        clear hb hE hO lO hI lI h0 h1 h2 h3 h4 h5 hok heq ht htl hf b0 b1 b2
        have b0 := XN.out.c0; have b1 := XN.out.c1; have b2 := XN.out.c2
        go_wp2_with fail
        obtain ⟨w5, hw5⟩ : ∃ w5, w5 = w4.alloc (.cells #[.slice A4 x.f0.length c4, .int .i64 x.f1, .int .i64 x.f2, .slice A5 x.f3.length c5, .bool x.f4, .int .i64 x.f5] 61) := ⟨_, rfl⟩
        rw [← hw5]
        obtain ⟨t8, ht8⟩ : ∃ t8, t8 = w4.heap.size := ⟨_, rfl⟩
        have Y := Lib.hid (show HX w5 t8 A4 c4 A5 c5 x by rw [hw5, ht8]; exact HNX.out)
        have hb : Below w4.heap.size w4 w5 := by rw [hw5]; exact below_one _ _
        replace H := Lib.hid (H.out.below hb); replace X := Lib.hid (X.out.below hb); replace B := Lib.hid (bb B.out hb)
        rw [← ht8]
        clear hw5 ht8 hb HNX XN b0 b1 b2
        have hoc := recv_calls A4 c4 A5 c5 x A1 c1 b now w5 Y.out.o Y.out.i (by have := HXL.out; omega) (Kd.C_below HR1.out B.out)
        rcases OK.out.twice with heq | ⟨heq, hck, hodd⟩
        · rw [heq] at hoc
          refine hoc.mono ?_
          clear hoc heq
          rintro e w6 ⟨v, rfl, hE, hb⟩
          obtain ⟨A6, c6, A7, c7, rfl, hO, lO, hI, lI⟩ := hE.outx
          replace H := Lib.hid (H.out.below hb); replace X := Lib.hid (X.out.below hb); replace B := Lib.hid (bb B.out hb)
          replace Y := Lib.hid (Y.out.below hb)
          have HNZ := Lib.hid (HX.new w6 hO lO hI lI)
          have YN := Lib.hid (Y.out.below (below_one w6 (.cells #[.slice A6 x.f0.length c6, .int .i64 x.f1, .int .i64 x.f2, .slice A7 x.f3.length c7, .bool x.f4, .int .i64 x.f5] 61)))
          clear hb hE hO lO hI lI
          have y0 := YN.out.blk.c0; have y1 := YN.out.blk.c1; have y2 := YN.out.blk.c2; have y3 := YN.out.blk.c3; have y4 := YN.out.blk.c4; have y5 := YN.out.blk.c5
          have z0 := HNZ.out.blk.c0; have z1 := HNZ.out.blk.c1; have z2 := HNZ.out.blk.c2; have z3 := HNZ.out.blk.c3; have z4 := HNZ.out.blk.c4; have z5 := HNZ.out.blk.c5
          go_wp2_with fail
          obtain ⟨w7, hw7⟩ : ∃ w7, w7 = w6.alloc (.cells #[.slice A6 x.f0.length c6, .int .i64 x.f1, .int .i64 x.f2, .slice A7 x.f3.length c7, .bool x.f4, .int .i64 x.f5] 61) := ⟨_, rfl⟩
          rw [← hw7]
          have hb : Below w6.heap.size w6 w7 := by rw [hw7]; exact below_one _ _
          rw [← hw7] at HNZ
          replace H := Lib.hid (H.out.below hb); replace X := Lib.hid (X.out.below hb); replace B := Lib.hid (bb B.out hb)
          replace Y := Lib.hid (Y.out.below hb)
          clear hw7 hb YN y0 y1 y2 y3 y4 y5 z0 z1 z2 z3 z4 z5
          refine (crossbarref30_Same.calls 10000 A4 c4 x.f0 x.f1 x.f2 A5 c5 x.f3 x.f4 x.f5 A6 c6 x.f0 x.f1 x.f2 A7 c7 x.f3 x.f4 x.f5 true w7 Y.out.o Y.out.lo Y.out.i Y.out.li HNZ.out.o HNZ.out.lo HNZ.out.i HNZ.out.li (same30_refl x OK.out.sized (by have := OK.out.out; have := OK.out.n64; omega) HXL.out 10000 (Nat.le_refl _))).mono ?_
          rintro e w8 ⟨rfl, hb⟩
          replace H := Lib.hid (H.out.below hb); replace X := Lib.hid (X.out.below hb); replace B := Lib.hid (bb B.out hb)
          replace Y := Lib.hid (Y.out.below hb)
          clear hb HNZ
          have y3 := Y.out.blk.c3; have h3 := H.out.blk.c3
          go_wp2_with fail
          have hpx := crossbarlaw30_prefix.calls 10000 A3 c3 c.f3 A5 c5 x.f3 true w8 H.out.i H.out.li Y.out.i Y.out.li (by rw [PRE.out]; exact prefix_ok c.f3 tt (by have := HL.out; omega) 10000 (Nat.le_refl _))
          refine hpx.mono ?_
          clear hpx
          rintro e w9 ⟨rfl, hd⟩
          have hb : Below w8.heap.size w8 w9 := hd.below
          replace H := Lib.hid (H.out.below hb); replace X := Lib.hid (X.out.below hb); replace B := Lib.hid (bb B.out hb)
          replace Y := Lib.hid (Y.out.below hb)
          clear hb hd y3 h3
          have hL0 : (x.f3.length : Int) ≤ (c.f3.length : Int) + (b.f2.length : Int) := by rw [PRE.out, List.length_append]; have := TL.out; omega
          have hL1 : (x.f0.length : Int) ≤ (c.f0.length : Int) := by have := OK.out.out; omega
          obtain ⟨d, hd⟩ : ∃ d, d = x.f1 - c.f1 := ⟨_, rfl⟩
          have hn := OK.out.n64
          have hfi := OK.out.first
          have hW1 : wrap64 (x.f1 - c.f1) = d := by rw [← hd]; exact wid (by omega) (by omega)
          have hW2 : wrap64 ((c.f0.length : Int) - (x.f0.length : Int)) = d := by rw [← hfi, ← hd]; exact wid (by omega) (by omega)
          have hW3 : wrap64 ((c.f3.length : Int) + (b.f2.length : Int)) = (c.f3.length : Int) + (b.f2.length : Int) := wid (by omega) (by have := HL.out; have := HF.out; omega)
          have y0 := Y.out.blk.c0; have y1 := Y.out.blk.c1; have y3 := Y.out.blk.c3
          have h0 := H.out.blk.c0; have h1 := H.out.blk.c1; have h3 := H.out.blk.c3
          have b2 := X.out.c2
          clear hd hn hfi
          go_wp2_with fail
          go_ret
          exact ⟨by simp, B.out⟩
        · rw [heq] at hoc
          refine hoc.mono ?_
          clear hoc heq
          rintro e w6 ⟨v, rfl, hE, hb⟩
          obtain ⟨A6, c6, A7, c7, rfl, hO, lO, hI, lI⟩ := hE.outx
          replace Y := Lib.hid (Y.out.below hb)
          replace B := Lib.hid (bb B.out hb)
          have YN := Lib.hid (Y.out.below (below_one w6 (.cells #[.slice A6 0 c6, .int .i64 0, .int .i64 0, .slice A7 0 c7, .bool false, .int .i64 0] 61)))
          clear hb hE hO lO hI lI
          have HCK := Lib.hid hck; have HODD := Lib.hid hodd
          clear hck hodd
          simp only [z61, List.length_nil]
          have y0 := YN.out.blk.c0; have y1 := YN.out.blk.c1; have y2 := YN.out.blk.c2; have y3 := YN.out.blk.c3; have y4 := YN.out.blk.c4; have y5 := YN.out.blk.c5
          go_wp2_with fail
          obtain ⟨w7, hw7⟩ : ∃ w7, w7 = w6.alloc (.cells #[.slice A6 0 c6, .int .i64 0, .int .i64 0, .slice A7 0 c7, .bool false, .int .i64 0] 61) := ⟨_, rfl⟩
          rw [← hw7]
          have hb : Below w6.heap.size w6 w7 := by rw [hw7]; exact below_one _ _
          replace Y := Lib.hid (Y.out.below hb)
          replace B := Lib.hid (bb B.out hb)
          clear hw7 hb YN y0 y1 y2 y3 y4 y5
          refine (clCheck_calls A4 c4 x.f0 x.f1 x.f2 (.slice A5 x.f3.length c5) x.f4 x.f5 w7 Y.out.o).mono ?_
          rw [HCK.out]
          rintro e w8 ⟨rfl, hb⟩
          replace Y := Lib.hid (Y.out.below hb)
          replace B := Lib.hid (bb B.out hb)
          clear hb
          have y1 := Y.out.blk.c1; have y2 := Y.out.blk.c2
          rcases HODD.out with ho | ⟨ho1, ho2⟩
          · go_wp2_with fail
            go_ret
            exact ⟨by simp [*], B.out⟩
          · go_wp2_with fail
            go_ret
            exact ⟨by simp [*], B.out⟩
end Go.Proofs.Ytbfhohpbldadbaa.P
