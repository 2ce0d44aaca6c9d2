import Derived.Test.YtbfhohpbldadbaaLw
namespace Go.Proofs.Ytbfhohpbldadbaa.P
open Go Go.RowKit Go.Proofs.YtbfhohpbldadbaaW.PrintWords Go.Proofs.YtbfhohpbldadbaaW.PrintLast Go.Proofs.YtbfhohpbldadbaaW.PrintMore
set_option linter.unusedVariables false
set_option linter.unusedSimpArgs false
theorem wid2 (n : Nat) (h : n ≤ 62) : wrap64 ((n : Int) + 2) = (n : Int) + 2 := wid (by omega) (by omega)
theorem wid1 (n : Nat) (h : n ≤ 62) : wrap64 ((n : Int) + 1) = (n : Int) + 1 := wid (by omega) (by omega)
theorem app2_0 {y o : List (List S39)} {a b : List S39} {n : Nat} (h : y = o ++ [a] ++ [b]) (hn : n = o.length) : y[n]? = some a := by
  subst h hn
  rw [List.append_assoc, List.getElem?_append_right (Nat.le_refl _)]
  simp
theorem app2_j {y o : List (List S39)} {a b : List S39} {j : Nat} (h : y = o ++ [a] ++ [b]) (hj : j < o.length) : y[j]? = some (o[j]'hj) := by
  subst h
  rw [List.append_assoc, List.getElem?_append_left hj, List.getElem?_eq_getElem hj]
theorem app2_1 {y o : List (List S39)} {a b : List S39} {n : Nat} (h : y = o ++ [a] ++ [b]) (hn : n = o.length) : y[n + 1]? = some b := by
  subst h hn
  rw [List.append_assoc, List.getElem?_append_right (by omega)]
  simp
theorem AtL.keep {w w' : World} {a : Addr} {A : Option Addr} {c : Nat} {l : List S39} (h : AtL w a A c l) (hb : Below w.heap.size w w') : AtL w' a A c l := ⟨cell_keep h.c0 hb, h.le, Kd.C_below h.cc hb⟩
theorem sameR (A1 : Option Addr) (c1 : Nat) (A2 : Option Addr) (c2 : Nat) (a : List S39) (w : World) (h1 : Kd.C k39 w A1 a.length a) (l1 : a.length ≤ c1) (h2 : Kd.C k39 w A2 a.length a) (l2 : a.length ≤ c2) (hl : a.length ≤ 2000000) :
    Calls Try.prog 42 #[.slice A1 a.length c1, .slice A2 a.length c2] w fun e w' => e = .returned (.bool true) ∧ Below w.heap.size w w' := by
  refine (crossbarref30_SameRecords.calls (a.length + 1) A1 c1 a A2 c2 a true w h1 l1 h2 l2 (same_refl a hl _ (Nat.le_refl _))).mono ?_
  rintro e w' ⟨h, hd⟩
  exact ⟨h, hd.below⟩
set_option maxHeartbeats 16000000 in
set_option maxRecDepth 100000 in
theorem law16_walk (A0 : Option Addr) (c0 : Nat) (A3 : Option Addr) (c3 : Nat) (c : S61) (A1 : Option Addr) (c1 : Nat) (first : List S39) (A2 : Option Addr) (c2 : Nat) (second : List S39) (w : World)
    (hr : Kd.C kL w A0 c.f0.length c.f0) (hc0 : c.f0.length ≤ c0) (hr3 : Kd.C k39 w A3 c.f3.length c.f3) (hc3 : c.f3.length ≤ c3) (hin : c.f3.length ≤ 2000000000000) (hout : ∀ l ∈ c.f0, l.length ≤ 2000000000000) (hr1 : Kd.C k39 w A1 first.length first) (hc1 : first.length ≤ c1) (hr2 : Kd.C k39 w A2 second.length second) (hc2 : second.length ≤ c2) :
    Calls Try.prog 16 #[vE A0 c0 A3 c3 c, .slice A1 first.length c1, .slice A2 second.length c2] w (fun e w' => e = .returned (.bool true) ∧ Below w.heap.size w w') := by
  unfold vE
  have HIN := Lib.hid hin; have HOUT := Lib.hid hout; have HR1 := Lib.hid hr1; have HC1 := Lib.hid hc1; have HR2 := Lib.hid hr2; have HC2 := Lib.hid hc2
  have HN := Lib.hid (HX.new w hr hc0 hr3 hc3)
  clear hr hr3 hin hout hr1 hc1 hr2 hc2 hc0 hc3
  go_enter Try.func16, Try.ntmps16
  go_wp2_with fail
  obtain ⟨w1, hw1⟩ : ∃ w1, w1 = w.alloc (.cells #[.slice A0 c.f0.length c0, .int .i64 c.f1, .int .i64 c.f2, .slice A3 c.f3.length c3, .bool c.f4, .int .i64 c.f5] 61) := ⟨_, rfl⟩
  rw [← hw1]
  obtain ⟨t3, ht3⟩ : ∃ t3, t3 = w.heap.size := ⟨_, rfl⟩
  have H := Lib.hid (show HX w1 t3 A0 c0 A3 c3 c by rw [hw1, ht3]; exact HN.out)
  have B := Lib.hid (show Below w.heap.size w w1 by rw [hw1]; exact below_one _ _)
  rw [← ht3]
  clear hw1 HN ht3
  refine (sane30_calls w1).mono ?_
  rintro e w2 ⟨rfl, hb⟩
  replace H := Lib.hid (H.out.below hb); replace B := Lib.hid (bb B.out hb)
  clear hb
  have h0 := H.out.blk.c0; have h1 := H.out.blk.c1; have h2 := H.out.blk.c2; have h3 := H.out.blk.c3; have h4 := H.out.blk.c4; have h5 := H.out.blk.c5
  go_wp2_with fail
  obtain ⟨b, hfw⟩ := few30_ex c
  refine (crossbarref30_Few.calls 100 A0 c0 c.f0 c.f1 c.f2 A3 c3 c.f3 c.f4 c.f5 b w2 H.out.o H.out.lo H.out.i H.out.li hfw).mono ?_
  have HFEW := Lib.hid hfw
  clear hfw
  rintro e w3 ⟨rfl, hb⟩
  replace H := Lib.hid (H.out.below hb); replace B := Lib.hid (bb B.out hb)
  clear hb h0 h1 h2 h3 h4 h5
  have h0 := H.out.blk.c0; have h1 := H.out.blk.c1; have h2 := H.out.blk.c2; have h3 := H.out.blk.c3; have h4 := H.out.blk.c4; have h5 := H.out.blk.c5
  cases b
  · go_wp2_with fail
    go_ret
    exact ⟨rfl, B.out⟩
  · have HL := Lib.hid (show c.f3.length ≤ 1000000 by have := few30_true HIN.out HOUT.out HFEW.out; omega)
    by_cases hf : (1100 : Int) < first.length
    · go_wp2_with fail
      go_ret
      exact ⟨rfl, B.out⟩
    · by_cases hs : (1100 : Int) < second.length
      · go_wp2_with fail
        go_ret
        exact ⟨rfl, B.out⟩
      · have HF := Lib.hid hf; have HS := Lib.hid hs
        go_wp2_with fail
        have hoc := offer_calls A0 c0 A3 c3 c A1 c1 first w3 H.out.o H.out.i HL.out (Kd.C_below HR1.out B.out)
        rcases off_cases c first with ⟨er, heq, hne, _⟩ | ⟨heq, hck, hfl, hfs, h64⟩
        · rw [heq] at hoc
          refine hoc.mono ?_
          clear hoc heq
          rintro e w4 ⟨v, rfl, hE, hb⟩
          obtain ⟨A4, c4, A5, c5, rfl, hO, lO, hI, lI⟩ := hE.outx
          have hz : (er != 0) = true := by simpa using hne
          replace B := Lib.hid (bb B.out hb)
          clear hb hE hO lO hI lI h0 h1 h2 h3 h4 h5 hne hf hs
          simp only [z61, List.length_nil]
          go_wp2_with fail
          go_ret
          exact ⟨by simp, al B.out _⟩
        · obtain ⟨x, hx⟩ : ∃ x : S61, x = ⟨c.f0 ++ [first], c.f1, c.f2, c.f3, c.f4, c.f5⟩ := ⟨_, rfl⟩
          rw [heq, ← hx] at hoc
          refine hoc.mono ?_
          clear hoc heq
          rintro e w4 ⟨v, rfl, hE, hb⟩
          obtain ⟨A4, c4, A5, c5, rfl, hO, lO, hI, lI⟩ := hE.outx
          replace H := Lib.hid (H.out.below hb); replace B := Lib.hid (bb B.out hb)
          have HX1 := Lib.hid hx
          have HNX := Lib.hid (HX.new w4 hO lO hI lI)
          have CKX := Lib.hid (show clCheck x.f0 x.f1 x.f2 x.f5 = 0 by rw [hx]; exact check_app hck hfs h64)
          have HXL := Lib.hid (show x.f3.length ≤ 1000000 by rw [hx]; exact HL.out)
          have HFL := Lib.hid hfl
          have HCK := Lib.hid hck
          clear hb hE hO lO hI lI h0 h1 h2 h3 h4 h5 hx hck hfl hfs h64 hf hs
          go_wp2_with fail
          obtain ⟨w5, hw5⟩ : ∃ w5, w5 = w4.alloc (.cells #[.slice A4 x.f0.length c4, .int .i64 x.f1, .int .i64 x.f2, .slice A5 x.f3.length c5, .bool x.f4, .int .i64 x.f5] 61) := ⟨_, rfl⟩
          rw [← hw5]
          obtain ⟨t8, ht8⟩ : ∃ t8, t8 = w4.heap.size := ⟨_, rfl⟩
          have X := Lib.hid (show HX w5 t8 A4 c4 A5 c5 x by rw [hw5, ht8]; exact HNX.out)
          have hb : Below w4.heap.size w4 w5 := by rw [hw5]; exact below_one _ _
          replace H := Lib.hid (H.out.below hb); replace B := Lib.hid (bb B.out hb)
          rw [← ht8]
          clear hw5 ht8 hb HNX
          have hoc := offer_calls A4 c4 A5 c5 x A2 c2 second w5 X.out.o X.out.i HXL.out (Kd.C_below HR2.out B.out)
          rcases off_cases x second with ⟨er, heq, hne, hwhy⟩ | ⟨heq, hck, hfl, hfs, h64⟩
          · rw [heq] at hoc
            refine hoc.mono ?_
            clear hoc heq
            rintro e w6 ⟨v, rfl, hE, hb⟩
            obtain ⟨A6, c6, A7, c7, rfl, hO, lO, hI, lI⟩ := hE.outx
            have hor := hwhy CKX.out
            replace B := Lib.hid (bb B.out hb); replace X := Lib.hid (X.out.below hb)
            have XN := Lib.hid (X.out.below (below_one w6 (.cells #[.slice A6 0 c6, .int .i64 0, .int .i64 0, .slice A7 0 c7, .bool false, .int .i64 0] 61)))
            clear hb hE hO lO hI lI hne hwhy
            have x0 := XN.out.blk.c0
            simp only [z61, List.length_nil]
            rcases hor with ⟨h0, rfl⟩ | ⟨rfl, h0, hk⟩
            · have hz : ((second.length : Int) == 0) = true := by simp only [beq_iff_eq]; omega
              clear h0
              go_wp2_with fail
              go_ret
              exact ⟨by simp, al B.out _⟩
            · have hz : ((second.length : Int) == 0) = false := by simp only [beq_eq_false_iff_ne]; omega
              clear h0
              by_cases hk1 : (1024 : Int) < second.length
              · clear hk
                go_wp2_with fail
                go_ret
                exact ⟨by simp [*], al B.out _⟩
              · have hk2 : (64 : Int) ≤ (x.f0.length : Int) := by have := hk.resolve_left hk1; omega
                clear hk
                go_wp2_with fail
                go_ret
                exact ⟨by simp [*], al B.out _⟩
          · obtain ⟨y, hy⟩ : ∃ y : S61, y = ⟨x.f0 ++ [second], x.f1, x.f2, x.f3, x.f4, x.f5⟩ := ⟨_, rfl⟩
            rw [heq, ← hy] at hoc
            refine hoc.mono ?_
            clear hoc heq
            rintro e w6 ⟨v, rfl, hE, hb⟩
            obtain ⟨A6, c6, A7, c7, rfl, hO, lO, hI, lI⟩ := hE.outx
            replace H := Lib.hid (H.out.below hb); replace B := Lib.hid (bb B.out hb)
            have hsz := check_sized hck
            obtain ⟨n, hn⟩ : ∃ n, n = c.f0.length := ⟨_, rfl⟩
            have hyl : y.f0.length = n + 2 := by rw [hy, hn]; simp only [List.length_append, List.length_singleton]; rw [HX1.out]; simp
            have hyi : y.f3 = c.f3 := by rw [hy, HX1.out]
            have hy0 : y.f0 = c.f0 ++ [first] ++ [second] := by rw [hy, HX1.out]
            have hn62 : n ≤ 62 := by have h1 : x.f0.length = n + 1 := by rw [HX1.out, hn]; simp
                                     have := hsz.1; omega
            have hf1 : y.f1 = c.f1 := by rw [hy, HX1.out]
            have hf2 : y.f2 = c.f2 := by rw [hy, HX1.out]
            have hf5 : y.f5 = c.f5 := by rw [hy, HX1.out]
            have hIL : c.f3.length ≤ 1000000 := HL.out
            have HY := Lib.hid (show HE (w6.alloc (.cells #[.slice A6 (n + 2) c6, .int .i64 c.f1, .int .i64 c.f2, .slice A7 c.f3.length c7, .bool y.f4, .int .i64 c.f5] 61)) w6.heap.size A6 (n + 2) c6 A7 c.f3.length c7 y from ⟨by rw [hf1, hf2, hf5]; exact EBlk.new _ _ _ _ _ _ _ _, by rw [← hyl]; exact Kd.C_below hO (below_one _ _), by rw [← hyi]; exact Kd.C_below hI (below_one _ _)⟩)
            have LY := Lib.hid (show n + 2 ≤ c6 ∧ c.f3.length ≤ c7 from ⟨by rw [← hyl]; exact lO, by rw [← hyi]; exact lI⟩)
            have LC := Lib.hid (show n ≤ c0 ∧ c.f3.length ≤ c3 from ⟨by rw [hn]; exact H.out.lo, H.out.li⟩)
            have HC := Lib.hid (show HE (w6.alloc (.cells #[.slice A6 (n + 2) c6, .int .i64 c.f1, .int .i64 c.f2, .slice A7 c.f3.length c7, .bool y.f4, .int .i64 c.f5] 61)) t3 A0 n c0 A3 c.f3.length c3 c from by rw [hn]; exact ⟨(H.out.below (below_one _ _)).blk, (H.out.below (below_one _ _)).o, (H.out.below (below_one _ _)).i⟩)
            rw [hyl, hyi, hf1, hf2, hf5, ← hn]
            have HN := Lib.hid hn; have HY0 := Lib.hid hy0; have HYI := Lib.hid hyi; have HF1 := Lib.hid hf1; have HF2 := Lib.hid hf2; have HF5 := Lib.hid hf5
            replace B := Lib.hid (al B.out (.cells #[.slice A6 (n + 2) c6, .int .i64 c.f1, .int .i64 c.f2, .slice A7 c.f3.length c7, .bool y.f4, .int .i64 c.f5] 61))
            have hw2 : wrap64 ((n : Int) + 2) = (n : Int) + 2 := wid2 n hn62
            have hw1 : wrap64 ((n : Int) + 1) = (n : Int) + 1 := wid1 n hn62
            clear hb hE hO lO hI lI hn hy hy0 hyi hyl hf1 hf2 hf5 hsz hck hfl hfs h64 X H HXL hIL
            have HFL := Lib.hid (show first.length ≤ 1100 by have := HF.out; omega)
            have HSL := Lib.hid (show second.length ≤ 1100 by have := HS.out; omega)
            have HIL := Lib.hid (show c.f3.length ≤ 2000000 by have := HL.out; omega)
            have hyl : y.f0.length = n + 2 := by rw [HY0.out, HN.out]; simp
            obtain ⟨adY, Af, cf, hA, hat⟩ := L_cell HY.out.o n (by omega) (by omega)
            obtain ⟨adY', As, cs, hA', hat'⟩ := L_cell HY.out.o (n + 1) (by omega) (by omega)
            rw [hA] at hA'
            injection hA' with hA'
            subst hA'
            subst hA
            have e1 := (List.getElem?_eq_some_iff.1 (app2_0 HY0.out HN.out)).2
            have e2 := (List.getElem?_eq_some_iff.1 (app2_1 HY0.out HN.out)).2
            replace hat : AtL (w6.alloc (.cells #[.slice (some adY) (n + 2) c6, .int .i64 c.f1, .int .i64 c.f2, .slice A7 c.f3.length c7, .bool y.f4, .int .i64 c.f5] 61)) (adY.add n) Af cf first := by rw [← e1]; exact hat
            replace hat' : AtL (w6.alloc (.cells #[.slice (some adY) (n + 2) c6, .int .i64 c.f1, .int .i64 c.f2, .slice A7 c.f3.length c7, .bool y.f4, .int .i64 c.f5] 61)) (adY.add (n + 1)) As cs second := by rw [← e2]; exact hat'
            clear e1 e2 hyl
            have AF := Lib.hid hat; have AS := Lib.hid hat'
            have a0 := hat.c0
            clear hat hat'
            have y0 := HY.out.blk.c0; have h0 := HC.out.blk.c0
            go_wp2_with fail
            generalize w6.alloc (.cells #[.slice (some adY) (n + 2) c6, .int .i64 c.f1, .int .i64 c.f2, .slice A7 c.f3.length c7, .bool y.f4, .int .i64 c.f5] 61) = w7 at HY HC B AF AS ⊢
            obtain ⟨t10, ht10⟩ : ∃ t10, t10 = w6.heap.size := ⟨_, rfl⟩
            rw [← ht10] at HY
            rw [← ht10]
            clear ht10 a0 y0 h0
            refine (sameR Af cf A1 c1 first w7 AF.out.cc AF.out.le (Kd.C_below HR1.out B.out) HC1.out (by have := HFL.out; omega)).mono ?_
            rintro e w8 ⟨rfl, hb⟩
            replace HY := Lib.hid (HY.out.below hb); replace HC := Lib.hid (HC.out.below hb); replace B := Lib.hid (bb B.out hb); replace AS := Lib.hid (AS.out.keep hb)
            clear hb AF
            have y0 := HY.out.blk.c0; have a0 : w8.cell? ⟨adY.block, adY.off + (n + 1), none⟩ = some (.slice As second.length cs) := by have h := AS.out.c0; simpa [Addr.add] using h
            go_wp2_with fail
            refine (sameR As cs A2 c2 second w8 AS.out.cc AS.out.le (Kd.C_below HR2.out B.out) HC2.out (by have := HSL.out; omega)).mono ?_
            rintro e w9 ⟨rfl, hb⟩
            replace HY := Lib.hid (HY.out.below hb); replace HC := Lib.hid (HC.out.below hb); replace B := Lib.hid (bb B.out hb)
            clear hb AS y0 a0
            have y3 := HY.out.blk.c3; have h3 := HC.out.blk.c3
            go_wp2_with fail
            refine (sameR A7 c7 A3 c3 c.f3 w9 (by have h := HY.out.i; rw [HYI.out] at h; exact h) LY.out.2 HC.out.i LC.out.2 HIL.out).mono ?_
            rintro e wa ⟨rfl, hb⟩
            replace HY := Lib.hid (HY.out.below hb); replace HC := Lib.hid (HC.out.below hb); replace B := Lib.hid (bb B.out hb)
            clear hb y3 h3
            go_wp2_with fail
            have HN62 := Lib.hid hn62
            have BA := Lib.hid B.out
            go_loopw [13, 14, 15] (fun v13 v14 _ W => ∃ j : Nat, j ≤ n ∧ v14 = .int .i64 j ∧ v13 = .bool true ∧ HE W t10 (some adY) (n + 2) c6 A7 c.f3.length c7 y ∧ HE W t3 A0 n c0 A3 c.f3.length c3 c ∧ Below w.heap.size w W) (fun _ i _ _ => n - (intOf i).toNat)
            case atStart => exact ⟨0, Nat.zero_le _, rfl, rfl, HY.out, HC.out, B.out⟩
            case round =>
              obtain ⟨j, hj, rfl, rfl, hY, hC, hB⟩ := hrel
              have QY := Lib.hid hY; have QC := Lib.hid hC; have QB := Lib.hid hB; have QJ := Lib.hid hj
              clear hY hC hB hj HY HC B BA
              have hw1j : wrap64 ((j : Int) + 1) = ((j + 1 : Nat) : Int) := by rw [wid (n := (j : Int) + 1) (by omega) (by have := QJ.out; have := HN62.out; omega)]; rfl
              have HWJ := Lib.hid hw1j
              clear hw1j
              by_cases hlt : j < n
              · have HLT := Lib.hid hlt
                have hyl : y.f0.length = n + 2 := by rw [HY0.out, HN.out]; simp
                have hcl : j < c.f0.length := by rw [← HN.out]; exact hlt
                obtain ⟨adY2, Aj, cj, hA, hat⟩ := L_cell QY.out.o j (by omega) (by omega)
                injection hA with hA
                subst hA
                obtain ⟨adC, Bj, dj, hA, hat2⟩ := L_cell QC.out.o j hlt hcl
                subst hA
                obtain ⟨m, hm⟩ : ∃ m, m = c.f0[j]'hcl := ⟨_, rfl⟩
                have e1 : y.f0[j]'(by omega) = m := by rw [hm]; exact (List.getElem?_eq_some_iff.1 (app2_j HY0.out hcl)).2
                replace hat : AtL wr (adY.add j) Aj cj m := by rw [← e1]; exact hat
                replace hat2 : AtL wr (adC.add j) Bj dj m := by rw [hm]; exact hat2
                have hml : m.length ≤ 1024 := by rw [hm]; exact ((check_sized HCK.out).2.1 _ (List.getElem_mem hcl)).2
                have HML := Lib.hid hml
                have a0 := hat.c0; have b0 := hat2.c0; have y0 := QY.out.blk.c0; have h0 := QC.out.blk.c0
                have AT := Lib.hid hat; have AT2 := Lib.hid hat2
                have i0 : (0 : Int) ≤ (j : Int) := by omega
                have i1 : (j : Int) < (n : Int) := by omega
                have i2 : (j : Int) < (n : Int) + 2 := by omega
                clear hat hat2 hm e1 hml hyl hcl hlt
                go_wp2_with fail
                go_region_held3 (fun w' => w'.cell? ⟨t10, 0, none⟩ = some (.slice (some adY) (n + 2) c6) ∧ w'.cell? (adY.add j) = some (.slice Aj m.length cj) ∧ w'.cell? ⟨t3, 0, none⟩ = some (.slice (some adC) n c0) ∧ w'.cell? (adC.add j) = some (.slice Bj m.length dj)) (first | exact ⟨cell_keep y0 hb', cell_keep a0 hb', cell_keep h0 hb', cell_keep b0 hb'⟩ | go_keep) (first | (go_at_call 42; refine (sameR Aj cj Bj dj m _ (Kd.C_drew AT.out.cc) AT.out.le (Kd.C_drew AT2.out.cc) AT2.out.le (by have := HML.out; omega)).mono ?_; rintro e wb ⟨rfl, hb⟩; have hb' : Below wr.heap.size wr wb := bb (below_drew (Below.refl _ _)) hb) | fail "no arm")
                have QY2 := Lib.hid (QY.out.below hb'); have QC2 := Lib.hid (QC.out.below hb'); have QB2 := Lib.hid (bb QB.out hb')
                clear hb' a0 b0 y0 h0
                go_wp2_with fail
                go_roundw
                case rel => exact ⟨j + 1, HLT.out, rfl, rfl, QY2.out, QC2.out, QB2.out⟩
                case measure =>
                  have := HLT.out
                  simp only [intOf]
                  omega
              · have hjn : j = n := by have := QJ.out; omega
                subst hjn
                have y1 := QY.out.blk.c1; have y2 := QY.out.blk.c2; have y5 := QY.out.blk.c5
                have h1 := QC.out.blk.c1; have h2 := QC.out.blk.c2; have h5 := QC.out.blk.c5
                rw [HF1.out] at y1; rw [HF2.out] at y2; rw [HF5.out] at y5
                go_wp2_with fail
                go_ret
                exact ⟨by simp, QB.out⟩
end Go.Proofs.Ytbfhohpbldadbaa.P
