import Derived.Test.YtbfhohpbldadbaaCl6
namespace Go.Proofs.Ytbfhohpbldadbaa.P
open Go Go.RowKit Go.Proofs.YtbfhohpbldadbaaW.PrintWords Go.Proofs.YtbfhohpbldadbaaW.PrintLast Go.Proofs.YtbfhohpbldadbaaW.PrintMore
set_option linter.unusedVariables false
set_option linter.unusedSimpArgs false
def validBatch (b : S83) : Bool := if b.f1 = true then decide (b.f2.length = 0) else sizedB b.f2.length
def ackF (c : S61) (no : Int) : S61 × Int :=
  if no ≤ c.f1 then (c, 0) else if c.f1 + 1 < no ∨ c.f5 = -1 then (z61, 300) else (⟨c.f0.drop 1, c.f1 + 1, c.f2, c.f3, c.f4, -1⟩, 0)
def accF (c : S61) (no : Int) (recs : List S39) : S61 × Int :=
  if c.f2 < no then (z61, 300) else if no = c.f2 then (⟨c.f0, c.f1, c.f2 + 1, c.f3 ++ recs, true, c.f5⟩, 0) else (⟨c.f0, c.f1, c.f2, c.f3, true, c.f5⟩, 0)
def recvF (c : S61) (b : S83) (now : Int) : S61 × Int :=
  if clCheck c.f0 c.f1 c.f2 c.f5 ≠ 0 then (z61, clCheck c.f0 c.f1 c.f2 c.f5) else if oddT now = true ∨ oddT b.f0 = true ∨ validBatch b = false then (z61, 1) else if b.f1 = true then ackF c b.f0 else accF c b.f0 b.f2
theorem enters76 : Enters 76 := fun _ _ => by kernel_rfl
theorem enters77 : Enters 77 := fun _ _ => by kernel_rfl
set_option maxHeartbeats 16000000 in
set_option maxRecDepth 100000 in
theorem recv_calls (A0 : Option Addr) (c0 : Nat) (A3 : Option Addr) (c3 : Nat) (c : S61) (A2 : Option Addr) (c2 : Nat) (b : S83) (now : Int) (w : World) (hr : Kd.C kL w A0 c.f0.length c.f0) (hr3 : Kd.C k39 w A3 c.f3.length c.f3) (hl : c.f3.length ≤ 1000000) (hr2 : Kd.C k39 w A2 b.f2.length b.f2) :
    Calls Try.prog 46 #[vE A0 c0 A3 c3 c, .agg #[.int .i64 b.f0, .bool b.f1, .slice A2 b.f2.length c2], .int .i64 now] w (Off2 (recvF c b now).1 (recvF c b now).2 w) := by
  obtain ⟨o, f1, f2, inn, f4, f5⟩ := c
  obtain ⟨no, ack, recs⟩ := b
  simp only at hr hr3 hl hr2
  unfold vE
  simp only
  have eg76 := enters76; have eg77 := enters77
  unfold Enters at eg76 eg77
  obtain ⟨x, hx⟩ : ∃ x, x = (recvF ⟨o, f1, f2, inn, f4, f5⟩ ⟨no, ack, recs⟩ now).1 := ⟨_, rfl⟩
  obtain ⟨r, hr'⟩ : ∃ r, r = (recvF ⟨o, f1, f2, inn, f4, f5⟩ ⟨no, ack, recs⟩ now).2 := ⟨_, rfl⟩
  rw [← hx, ← hr']
  have PX := Lib.hid hx; have PR := Lib.hid hr'
  have HR := Lib.hid hr; have HR3 := Lib.hid hr3; have HL := Lib.hid hl; have HR2 := Lib.hid hr2
  clear hr hr3 hl hr2 hx hr'
  go_enter Try.func46, Try.ntmps46
  go_wp2_with fail
  obtain ⟨w1, hw1⟩ : ∃ w1, w1 = ((w.alloc (.cells #[.slice A0 o.length c0, .int .i64 f1, .int .i64 f2, .slice A3 inn.length c3, .bool f4, .int .i64 f5] 61)).alloc (.cells #[.int .i64 no, .bool ack, .slice A2 recs.length c2] 83)).alloc (.cells #[.slice none 0 0, .int .i64 0, .int .i64 0, .slice none 0 0, .bool false, .int .i64 0] 61) := ⟨_, rfl⟩
  rw [← hw1]
  have Z0 := Lib.hid (show EBlk w1 (w.heap.size + 2) 61 (.slice none 0 0) 0 0 (.slice none 0 0) false 0 by rw [hw1]; have h := EBlk.new ((w.alloc (.cells #[.slice A0 o.length c0, .int .i64 f1, .int .i64 f2, .slice A3 inn.length c3, .bool f4, .int .i64 f5] 61)).alloc (.cells #[.int .i64 no, .bool ack, .slice A2 recs.length c2] 83)) 61 (.slice none 0 0) (.slice none 0 0) 0 0 0 false; rwa [World.size_alloc, World.size_alloc] at h)
  have X := Lib.hid (show BBlk w1 (w.heap.size + 1) no ack (.slice A2 recs.length c2) by rw [hw1]; have h := (BBlk.new (w.alloc (.cells #[.slice A0 o.length c0, .int .i64 f1, .int .i64 f2, .slice A3 inn.length c3, .bool f4, .int .i64 f5] 61)) no ack (.slice A2 recs.length c2)).below (below_one _ (.cells #[.slice none 0 0, .int .i64 0, .int .i64 0, .slice none 0 0, .bool false, .int .i64 0] 61)); rwa [World.size_alloc] at h)
  have BW := Lib.hid (show Below w.heap.size w w1 by rw [hw1]; exact al (al (below_one _ _) _) _)
  have N1 := Lib.hid (show w1.heap.size = w.heap.size + 3 by rw [hw1]; simp)
  clear hw1
  refine (edit_calls A0 c0 o f1 f2 A3 c3 inn f4 f5 w1 (Kd.C_below HR.out BW.out) (Kd.C_below HR3.out BW.out) HL.out).mono ?_
  rintro e w2 (⟨hne, rfl, hb⟩ | ⟨h0, g, vo, vi, rfl, hE⟩)
  · have Z := Lib.hid (Z0.out.below hb)
    have B0 := Lib.hid (bb BW.out hb)
    clear hb
    have hz : (clCheck o f1 f2 f5 != 0) = true := by simpa using hne
    obtain ⟨err, herr⟩ : ∃ err, err = clCheck o f1 f2 f5 := ⟨_, rfl⟩
    rw [← herr] at hz hne ⊢
    have HE := Lib.hid herr; have HNE := Lib.hid hne
    clear herr hne
    have z0 := Z.out.c0; have z1 := Z.out.c1; have z2 := Z.out.c2; have z3 := Z.out.c3; have z4 := Z.out.c4; have z5 := Z.out.c5; have y := blk_frozen Z.out
    go_wp2_with fail
    obtain ⟨w9, hw9, Z9, F9⟩ := six Z.out (.slice none 0 0) (0) (0) (.slice none 0 0) (false) (0)
    rw [← hw9]
    clear hw9
    obtain rfl : err = r := by rw [PR.out]; unfold recvF; simp only; rw [if_pos (by rw [← HE.out]; exact HNE.out)]; exact HE.out
    obtain rfl : x = z61 := by rw [PX.out]; unfold recvF; simp only; rw [if_pos (by rw [← HE.out]; exact HNE.out)]
    refine bodyPost_ret (v := .tuple #[.agg #[.slice none 0 0, .int .i64 (0), .int .i64 (0), .slice none 0 0, .bool false, .int .i64 (0)], .int .i64 (err)]) (by simp [results, Try.results46, go_sem, Z9.c0, Z9.c1, Z9.c2, Z9.c3, Z9.c4, Z9.c5]) rfl ⟨_, rfl, EndV.zero _ _, Fr.below F9 B0.out (Nat.le_refl _) (fun k hk => by omega)⟩
  · have HZ := Lib.hid h0
    have EE := Lib.hid hE
    replace X := Lib.hid (X.out.below hE.low)
    clear h0 hE
    have SZ := Lib.hid (check_sized HZ.out)
    have b2 := X.out.c2
    go_wp2_with fail
    refine (sized_calls A2 recs.length c2 w2).mono ?_
    rintro e w3 ⟨rfl, hb⟩
    replace EE := Lib.hid (EE.out.below hb)
    replace X := Lib.hid (X.out.below hb)
    clear hb b2
    have b1 := X.out.c1; have b2 := X.out.c2
    cases ack
    · skip
      go_wp2_with fail
      refine (in74_calls now w3).mono ?_
      rintro e w4 ⟨rfl, hb⟩
      replace EE := Lib.hid (EE.out.below hb)
      replace X := Lib.hid (X.out.below hb)
      clear hb b1 b2
      have b0 := X.out.c0
      have Z := Lib.hid (show EBlk w4 (w.heap.size + 2) 61 (.slice none 0 0) 0 0 (.slice none 0 0) false 0 from (EE.out.low.block _ (by have := N1.out; omega)).trans Z0.out)
      have B0 := Lib.hid (bb BW.out EE.out.low)
      cases hn : oddT now
      · have HN := Lib.hid hn
        go_wp2_with fail
        refine (in74_calls no w4).mono ?_
        rintro e w5 ⟨rfl, hb⟩
        replace EE := Lib.hid (EE.out.below hb)
        replace X := Lib.hid (X.out.below hb)
        replace Z := Lib.hid (Z.out.below hb)
        replace B0 := Lib.hid (bb B0.out hb)
        clear hb b0
        cases hno : oddT no
        · have HNO := Lib.hid hno
          cases hs : sizedB recs.length
          · have HS := Lib.hid hs
            have z0 := Z.out.c0; have z1 := Z.out.c1; have z2 := Z.out.c2; have z3 := Z.out.c3; have z4 := Z.out.c4; have z5 := Z.out.c5; have y := blk_frozen Z.out
            go_wp2_with fail
            obtain ⟨w9, hw9, Z9, F9⟩ := six Z.out (.slice none 0 0) (0) (0) (.slice none 0 0) (false) (0)
            rw [← hw9]
            clear hw9
            obtain rfl : r = 1 := by rw [PR.out]; unfold recvF; simp only; rw [if_neg (by rw [HZ.out]; simp), if_pos (Or.inr (Or.inr (show validBatch ⟨no, false, recs⟩ = false from HS.out)))]
            obtain rfl : x = z61 := by rw [PX.out]; unfold recvF; simp only; rw [if_neg (by rw [HZ.out]; simp), if_pos (Or.inr (Or.inr (show validBatch ⟨no, false, recs⟩ = false from HS.out)))]
            refine bodyPost_ret (v := .tuple #[.agg #[.slice none 0 0, .int .i64 (0), .int .i64 (0), .slice none 0 0, .bool false, .int .i64 (0)], .int .i64 (1)]) (by simp [results, Try.results46, go_sem, Z9.c0, Z9.c1, Z9.c2, Z9.c3, Z9.c4, Z9.c5]) rfl ⟨_, rfl, EndV.zero _ _, Fr.below F9 B0.out (Nat.le_refl _) (fun k hk => by omega)⟩
          · have HS := Lib.hid hs
            have b0 := X.out.c0; have b1 := X.out.c1; have b2 := X.out.c2
            go_wp2_with fail
            refine (accept_calls w1 g vo vi o f1 f2 inn f4 f5 no false A2 c2 recs w5 EE.out (Kd.C_below HR2.out B0.out) SZ.out.2.2.2.2.1 SZ.out.2.2.2.2.2.1 HL.out (by have h := HS.out; unfold sizedB at h; simp only [Bool.and_eq_true, decide_eq_true_eq] at h; omega)).mono ?_
            rintro e w6 (⟨hgt, rfl, hb⟩ | ⟨rfl, rfl, vi2, hE6⟩ | ⟨hlt, rfl, hE6⟩)
            · have HG := Lib.hid hgt
              have Z := Lib.hid (show EBlk w6 (w.heap.size + 2) 61 (.slice none 0 0) 0 0 (.slice none 0 0) false 0 from (hb.block _ (by have := N1.out; omega)).trans Z0.out)
              have B0 := Lib.hid (bb BW.out hb)
              clear hb hgt b0 b1 b2
              have z0 := Z.out.c0; have z1 := Z.out.c1; have z2 := Z.out.c2; have z3 := Z.out.c3; have z4 := Z.out.c4; have z5 := Z.out.c5; have y := blk_frozen Z.out
              go_wp2_with fail
              obtain ⟨w9, hw9, Z9, F9⟩ := six Z.out (.slice none 0 0) (0) (0) (.slice none 0 0) (false) (0)
              rw [← hw9]
              clear hw9
              obtain rfl : r = 300 := by rw [PR.out]; unfold recvF; simp only; rw [if_neg (by rw [HZ.out]; simp), if_neg (by rw [HN.out, HNO.out, (show validBatch ⟨no, false, recs⟩ = true from HS.out)]; simp), if_neg (by simp)]; unfold accF; simp only; rw [if_pos HG.out]
              obtain rfl : x = z61 := by rw [PX.out]; unfold recvF; simp only; rw [if_neg (by rw [HZ.out]; simp), if_neg (by rw [HN.out, HNO.out, (show validBatch ⟨no, false, recs⟩ = true from HS.out)]; simp), if_neg (by simp)]; unfold accF; simp only; rw [if_pos HG.out]
              refine bodyPost_ret (v := .tuple #[.agg #[.slice none 0 0, .int .i64 (0), .int .i64 (0), .slice none 0 0, .bool false, .int .i64 (0)], .int .i64 (300)]) (by simp [results, Try.results46, go_sem, Z9.c0, Z9.c1, Z9.c2, Z9.c3, Z9.c4, Z9.c5]) rfl ⟨_, rfl, EndV.zero _ _, Fr.below F9 B0.out (Nat.le_refl _) (fun k hk => by omega)⟩
            · skip
              have Z := Lib.hid (show EBlk w6 (w.heap.size + 2) 61 (.slice none 0 0) 0 0 (.slice none 0 0) false 0 from (hE6.low.block _ (by have := N1.out; omega)).trans Z0.out)
              have B0 := Lib.hid (bb BW.out hE6.low)
              obtain ⟨Ao, ko, rfl⟩ := Kd.R_slice hE6.out
              obtain ⟨Ai, ki, rfl⟩ := Kd.R_slice hE6.inn
              have hlen : (inn ++ recs).length = inn.length + recs.length := List.length_append
              have E6 := Lib.hid hE6
              clear hE6 b0 b1 b2
              simp only [hlen] at E6
              clear hlen
              have x0 := E6.out.blk.c0; have x1 := E6.out.blk.c1; have x2 := E6.out.blk.c2; have x3 := E6.out.blk.c3; have x4 := E6.out.blk.c4; have x5 := E6.out.blk.c5
              have z0 := Z.out.c0; have z1 := Z.out.c1; have z2 := Z.out.c2; have z3 := Z.out.c3; have z4 := Z.out.c4; have z5 := Z.out.c5; have y := blk_frozen Z.out
              go_wp2_with fail
              obtain ⟨w9, hw9, Z9, F9⟩ := six Z.out (.slice Ao o.length ko) (f1) (no + 1) (.slice Ai (inn.length + recs.length) ki) (true) (f5)
              rw [← hw9]
              clear hw9
              obtain rfl : r = 0 := by rw [PR.out]; unfold recvF; simp only; rw [if_neg (by rw [HZ.out]; simp), if_neg (by rw [HN.out, HNO.out, (show validBatch ⟨no, false, recs⟩ = true from HS.out)]; simp), if_neg (by simp)]; unfold accF; simp only; rw [if_neg (by omega), if_pos trivial]
              obtain rfl : x = ⟨o, f1, no + 1, (inn ++ recs), true, f5⟩ := by rw [PX.out]; unfold recvF; simp only; rw [if_neg (by rw [HZ.out]; simp), if_neg (by rw [HN.out, HNO.out, (show validBatch ⟨no, false, recs⟩ = true from HS.out)]; simp), if_neg (by simp)]; unfold accF; simp only; rw [if_neg (by omega), if_pos trivial]
              refine bodyPost_ret (v := .tuple #[.agg #[.slice Ao o.length ko, .int .i64 (f1), .int .i64 (no + 1), .slice Ai (inn.length + recs.length) ki, .bool true, .int .i64 (f5)], .int .i64 (0)]) (by simp [results, Try.results46, go_sem, Z9.c0, Z9.c1, Z9.c2, Z9.c3, Z9.c4, Z9.c5]) rfl ⟨_, rfl, ⟨_, _, rfl, V_fr E6.out.v.out F9 (fun k hk => by have := N1.out; omega) BW.out.size, V_fr E6.out.v.inn F9 (fun k hk => by have := N1.out; omega) BW.out.size⟩, Fr.below F9 B0.out (Nat.le_refl _) (fun k hk => by omega)⟩
            · have HLT := Lib.hid hlt
              have Z := Lib.hid (show EBlk w6 (w.heap.size + 2) 61 (.slice none 0 0) 0 0 (.slice none 0 0) false 0 from (hE6.low.block _ (by have := N1.out; omega)).trans Z0.out)
              have B0 := Lib.hid (bb BW.out hE6.low)
              obtain ⟨Ao, ko, rfl⟩ := Kd.R_slice hE6.out
              obtain ⟨Ai, ki, rfl⟩ := Kd.R_slice hE6.inn
              have hlen : inn.length = inn.length := rfl
              have E6 := Lib.hid hE6
              clear hE6 b0 b1 b2
              clear hlen
              have x0 := E6.out.blk.c0; have x1 := E6.out.blk.c1; have x2 := E6.out.blk.c2; have x3 := E6.out.blk.c3; have x4 := E6.out.blk.c4; have x5 := E6.out.blk.c5
              have z0 := Z.out.c0; have z1 := Z.out.c1; have z2 := Z.out.c2; have z3 := Z.out.c3; have z4 := Z.out.c4; have z5 := Z.out.c5; have y := blk_frozen Z.out
              go_wp2_with fail
              obtain ⟨w9, hw9, Z9, F9⟩ := six Z.out (.slice Ao o.length ko) (f1) (f2) (.slice Ai (inn.length) ki) (true) (f5)
              rw [← hw9]
              clear hw9
              obtain rfl : r = 0 := by rw [PR.out]; unfold recvF; simp only; rw [if_neg (by rw [HZ.out]; simp), if_neg (by rw [HN.out, HNO.out, (show validBatch ⟨no, false, recs⟩ = true from HS.out)]; simp), if_neg (by simp)]; unfold accF; simp only; rw [if_neg (by have := HLT.out; omega), if_neg (by have := HLT.out; omega)]
              obtain rfl : x = ⟨o, f1, f2, inn, true, f5⟩ := by rw [PX.out]; unfold recvF; simp only; rw [if_neg (by rw [HZ.out]; simp), if_neg (by rw [HN.out, HNO.out, (show validBatch ⟨no, false, recs⟩ = true from HS.out)]; simp), if_neg (by simp)]; unfold accF; simp only; rw [if_neg (by have := HLT.out; omega), if_neg (by have := HLT.out; omega)]
              refine bodyPost_ret (v := .tuple #[.agg #[.slice Ao o.length ko, .int .i64 (f1), .int .i64 (f2), .slice Ai (inn.length) ki, .bool true, .int .i64 (f5)], .int .i64 (0)]) (by simp [results, Try.results46, go_sem, Z9.c0, Z9.c1, Z9.c2, Z9.c3, Z9.c4, Z9.c5]) rfl ⟨_, rfl, ⟨_, _, rfl, V_fr E6.out.v.out F9 (fun k hk => by have := N1.out; omega) BW.out.size, V_fr E6.out.v.inn F9 (fun k hk => by have := N1.out; omega) BW.out.size⟩, Fr.below F9 B0.out (Nat.le_refl _) (fun k hk => by omega)⟩
        · have HNO := Lib.hid hno
          have z0 := Z.out.c0; have z1 := Z.out.c1; have z2 := Z.out.c2; have z3 := Z.out.c3; have z4 := Z.out.c4; have z5 := Z.out.c5; have y := blk_frozen Z.out
          go_wp2_with fail
          obtain ⟨w9, hw9, Z9, F9⟩ := six Z.out (.slice none 0 0) (0) (0) (.slice none 0 0) (false) (0)
          rw [← hw9]
          clear hw9
          obtain rfl : r = 1 := by rw [PR.out]; unfold recvF; simp only; rw [if_neg (by rw [HZ.out]; simp), if_pos (Or.inr (Or.inl HNO.out))]
          obtain rfl : x = z61 := by rw [PX.out]; unfold recvF; simp only; rw [if_neg (by rw [HZ.out]; simp), if_pos (Or.inr (Or.inl HNO.out))]
          refine bodyPost_ret (v := .tuple #[.agg #[.slice none 0 0, .int .i64 (0), .int .i64 (0), .slice none 0 0, .bool false, .int .i64 (0)], .int .i64 (1)]) (by simp [results, Try.results46, go_sem, Z9.c0, Z9.c1, Z9.c2, Z9.c3, Z9.c4, Z9.c5]) rfl ⟨_, rfl, EndV.zero _ _, Fr.below F9 B0.out (Nat.le_refl _) (fun k hk => by omega)⟩
      · have HN := Lib.hid hn
        have z0 := Z.out.c0; have z1 := Z.out.c1; have z2 := Z.out.c2; have z3 := Z.out.c3; have z4 := Z.out.c4; have z5 := Z.out.c5; have y := blk_frozen Z.out
        go_wp2_with fail
        obtain ⟨w9, hw9, Z9, F9⟩ := six Z.out (.slice none 0 0) (0) (0) (.slice none 0 0) (false) (0)
        rw [← hw9]
        clear hw9
        obtain rfl : r = 1 := by rw [PR.out]; unfold recvF; simp only; rw [if_neg (by rw [HZ.out]; simp), if_pos (Or.inl HN.out)]
        obtain rfl : x = z61 := by rw [PX.out]; unfold recvF; simp only; rw [if_neg (by rw [HZ.out]; simp), if_pos (Or.inl HN.out)]
        refine bodyPost_ret (v := .tuple #[.agg #[.slice none 0 0, .int .i64 (0), .int .i64 (0), .slice none 0 0, .bool false, .int .i64 (0)], .int .i64 (1)]) (by simp [results, Try.results46, go_sem, Z9.c0, Z9.c1, Z9.c2, Z9.c3, Z9.c4, Z9.c5]) rfl ⟨_, rfl, EndV.zero _ _, Fr.below F9 B0.out (Nat.le_refl _) (fun k hk => by omega)⟩
    · skip
      by_cases hl0 : recs.length = 0
      · have HS := Lib.hid (show validBatch ⟨no, true, recs⟩ = true by unfold validBatch; simp [hl0])
        rw [hl0] at b2
        have X2 := Lib.hid (show BBlk w3 (w.heap.size + 1) no true (.slice A2 0 c2) by have h := X.out; rw [hl0] at h; exact h)
        clear X hl0
        have X := X2
        clear X2
        go_wp2_with fail
        refine (in74_calls now w3).mono ?_
        rintro e w4 ⟨rfl, hb⟩
        replace EE := Lib.hid (EE.out.below hb)
        replace X := Lib.hid (X.out.below hb)
        clear hb b1 b2
        have b0 := X.out.c0
        have Z := Lib.hid (show EBlk w4 (w.heap.size + 2) 61 (.slice none 0 0) 0 0 (.slice none 0 0) false 0 from (EE.out.low.block _ (by have := N1.out; omega)).trans Z0.out)
        have B0 := Lib.hid (bb BW.out EE.out.low)
        cases hn : oddT now
        · have HN := Lib.hid hn
          go_wp2_with fail
          refine (in74_calls no w4).mono ?_
          rintro e w5 ⟨rfl, hb⟩
          replace EE := Lib.hid (EE.out.below hb)
          replace X := Lib.hid (X.out.below hb)
          replace Z := Lib.hid (Z.out.below hb)
          replace B0 := Lib.hid (bb B0.out hb)
          clear hb b0
          cases hno : oddT no
          · have HNO := Lib.hid hno
            have b0 := X.out.c0; have b1 := X.out.c1; have b2 := X.out.c2
            go_wp2_with fail
            refine (ack_calls w1 g vo vi o f1 f2 inn f4 f5 no true (.slice A2 0 c2) w5 EE.out SZ.out.2.2.1 SZ.out.2.2.2.1 (fun h => (SZ.out.2.2.2.2.2.2.resolve_left h).1) ⟨_, _, _, rfl⟩).mono ?_
            rintro e w6 (⟨hle, rfl, hE6⟩ | ⟨hor, rfl, hb⟩ | ⟨⟨heq, hd⟩, rfl, vo2, hE6⟩)
            · have HLE := Lib.hid hle
              have hV := hE6.v
              clear hE6
              have Z := Lib.hid (show EBlk w6 (w.heap.size + 2) 61 (.slice none 0 0) 0 0 (.slice none 0 0) false 0 from (hV.low.block _ (by have := N1.out; omega)).trans Z0.out)
              have B0 := Lib.hid (bb BW.out hV.low)
              obtain ⟨Ao, ko, rfl⟩ := Kd.V_slice hV.out
              obtain ⟨Ai, ki, rfl⟩ := Kd.V_slice hV.inn
              have E6 := Lib.hid hV
              clear hV b0 b1 b2 hle
              have x0 := E6.out.blk.c0; have x1 := E6.out.blk.c1; have x2 := E6.out.blk.c2; have x3 := E6.out.blk.c3; have x4 := E6.out.blk.c4; have x5 := E6.out.blk.c5
              have z0 := Z.out.c0; have z1 := Z.out.c1; have z2 := Z.out.c2; have z3 := Z.out.c3; have z4 := Z.out.c4; have z5 := Z.out.c5; have y := blk_frozen Z.out
              go_wp2_with fail
              obtain ⟨w9, hw9, Z9, F9⟩ := six Z.out (.slice Ao o.length ko) (f1) (f2) (.slice Ai inn.length ki) (f4) (f5)
              rw [← hw9]
              clear hw9
              obtain rfl : r = 0 := by rw [PR.out]; unfold recvF; simp only; rw [if_neg (by rw [HZ.out]; simp), if_neg (by rw [HN.out, HNO.out, HS.out]; simp), if_pos (by simp)]; unfold ackF; simp only; rw [if_pos HLE.out]
              obtain rfl : x = ⟨o, f1, f2, inn, f4, f5⟩ := by rw [PX.out]; unfold recvF; simp only; rw [if_neg (by rw [HZ.out]; simp), if_neg (by rw [HN.out, HNO.out, HS.out]; simp), if_pos (by simp)]; unfold ackF; simp only; rw [if_pos HLE.out]
              refine bodyPost_ret (v := .tuple #[.agg #[.slice Ao o.length ko, .int .i64 (f1), .int .i64 (f2), .slice Ai inn.length ki, .bool f4, .int .i64 (f5)], .int .i64 (0)]) (by simp [results, Try.results46, go_sem, Z9.c0, Z9.c1, Z9.c2, Z9.c3, Z9.c4, Z9.c5]) rfl ⟨_, rfl, ⟨_, _, rfl, V_fr E6.out.out F9 (fun k hk => by have := N1.out; omega) BW.out.size, V_fr E6.out.inn F9 (fun k hk => by have := N1.out; omega) BW.out.size⟩, Fr.below F9 B0.out (Nat.le_refl _) (fun k hk => by omega)⟩
            · have HO := Lib.hid hor
              have Z := Lib.hid (show EBlk w6 (w.heap.size + 2) 61 (.slice none 0 0) 0 0 (.slice none 0 0) false 0 from (hb.block _ (by have := N1.out; omega)).trans Z0.out)
              have B0 := Lib.hid (bb BW.out hb)
              clear hb hor b0 b1 b2
              have z0 := Z.out.c0; have z1 := Z.out.c1; have z2 := Z.out.c2; have z3 := Z.out.c3; have z4 := Z.out.c4; have z5 := Z.out.c5; have y := blk_frozen Z.out
              go_wp2_with fail
              obtain ⟨w9, hw9, Z9, F9⟩ := six Z.out (.slice none 0 0) (0) (0) (.slice none 0 0) (false) (0)
              rw [← hw9]
              clear hw9
              obtain rfl : r = 300 := by rw [PR.out]; unfold recvF; simp only; rw [if_neg (by rw [HZ.out]; simp), if_neg (by rw [HN.out, HNO.out, HS.out]; simp), if_pos (by simp)]; unfold ackF; simp only; rw [if_neg (by have := HO.out.1; omega), if_pos HO.out.2]
              obtain rfl : x = z61 := by rw [PX.out]; unfold recvF; simp only; rw [if_neg (by rw [HZ.out]; simp), if_neg (by rw [HN.out, HNO.out, HS.out]; simp), if_pos (by simp)]; unfold ackF; simp only; rw [if_neg (by have := HO.out.1; omega), if_pos HO.out.2]
              refine bodyPost_ret (v := .tuple #[.agg #[.slice none 0 0, .int .i64 (0), .int .i64 (0), .slice none 0 0, .bool false, .int .i64 (0)], .int .i64 (300)]) (by simp [results, Try.results46, go_sem, Z9.c0, Z9.c1, Z9.c2, Z9.c3, Z9.c4, Z9.c5]) rfl ⟨_, rfl, EndV.zero _ _, Fr.below F9 B0.out (Nat.le_refl _) (fun k hk => by omega)⟩
            · have HEQ := Lib.hid heq; have HD := Lib.hid hd
              have hV := hE6
              clear hE6
              have Z := Lib.hid (show EBlk w6 (w.heap.size + 2) 61 (.slice none 0 0) 0 0 (.slice none 0 0) false 0 from (hV.low.block _ (by have := N1.out; omega)).trans Z0.out)
              have B0 := Lib.hid (bb BW.out hV.low)
              obtain ⟨Ao, ko, rfl⟩ := Kd.V_slice hV.out
              obtain ⟨Ai, ki, rfl⟩ := Kd.V_slice hV.inn
              obtain ⟨n6, hn6⟩ : ∃ n6, n6 = ((o.drop 1)).length := ⟨_, rfl⟩
              rw [← hn6] at hV
              have HN6 := Lib.hid hn6
              clear hn6
              have E6 := Lib.hid hV
              clear hV b0 b1 b2 heq hd
              have x0 := E6.out.blk.c0; have x1 := E6.out.blk.c1; have x2 := E6.out.blk.c2; have x3 := E6.out.blk.c3; have x4 := E6.out.blk.c4; have x5 := E6.out.blk.c5
              have z0 := Z.out.c0; have z1 := Z.out.c1; have z2 := Z.out.c2; have z3 := Z.out.c3; have z4 := Z.out.c4; have z5 := Z.out.c5; have y := blk_frozen Z.out
              go_wp2_with fail
              obtain ⟨w9, hw9, Z9, F9⟩ := six Z.out (.slice Ao n6 ko) ((f1 + 1)) (f2) (.slice Ai inn.length ki) (f4) ((-1))
              rw [← hw9]
              clear hw9
              obtain rfl : r = 0 := by rw [PR.out]; unfold recvF; simp only; rw [if_neg (by rw [HZ.out]; simp), if_neg (by rw [HN.out, HNO.out, HS.out]; simp), if_pos (by simp)]; unfold ackF; simp only; rw [if_neg (by have := HEQ.out; omega), if_neg (by have := HEQ.out; have := HD.out; omega)]
              obtain rfl : x = ⟨(o.drop 1), (f1 + 1), f2, inn, f4, (-1)⟩ := by rw [PX.out]; unfold recvF; simp only; rw [if_neg (by rw [HZ.out]; simp), if_neg (by rw [HN.out, HNO.out, HS.out]; simp), if_pos (by simp)]; unfold ackF; simp only; rw [if_neg (by have := HEQ.out; omega), if_neg (by have := HEQ.out; have := HD.out; omega)]
              refine bodyPost_ret (v := .tuple #[.agg #[.slice Ao n6 ko, .int .i64 ((f1 + 1)), .int .i64 (f2), .slice Ai inn.length ki, .bool f4, .int .i64 ((-1))], .int .i64 (0)]) (by simp [results, Try.results46, go_sem, Z9.c0, Z9.c1, Z9.c2, Z9.c3, Z9.c4, Z9.c5]) rfl ⟨_, rfl, ⟨_, _, rfl, V_fr E6.out.out F9 (fun k hk => by have := N1.out; omega) BW.out.size, V_fr E6.out.inn F9 (fun k hk => by have := N1.out; omega) BW.out.size⟩, Fr.below F9 B0.out (Nat.le_refl _) (fun k hk => by omega)⟩
          · have HNO := Lib.hid hno
            have z0 := Z.out.c0; have z1 := Z.out.c1; have z2 := Z.out.c2; have z3 := Z.out.c3; have z4 := Z.out.c4; have z5 := Z.out.c5; have y := blk_frozen Z.out
            go_wp2_with fail
            obtain ⟨w9, hw9, Z9, F9⟩ := six Z.out (.slice none 0 0) (0) (0) (.slice none 0 0) (false) (0)
            rw [← hw9]
            clear hw9
            obtain rfl : r = 1 := by rw [PR.out]; unfold recvF; simp only; rw [if_neg (by rw [HZ.out]; simp), if_pos (Or.inr (Or.inl HNO.out))]
            obtain rfl : x = z61 := by rw [PX.out]; unfold recvF; simp only; rw [if_neg (by rw [HZ.out]; simp), if_pos (Or.inr (Or.inl HNO.out))]
            refine bodyPost_ret (v := .tuple #[.agg #[.slice none 0 0, .int .i64 (0), .int .i64 (0), .slice none 0 0, .bool false, .int .i64 (0)], .int .i64 (1)]) (by simp [results, Try.results46, go_sem, Z9.c0, Z9.c1, Z9.c2, Z9.c3, Z9.c4, Z9.c5]) rfl ⟨_, rfl, EndV.zero _ _, Fr.below F9 B0.out (Nat.le_refl _) (fun k hk => by omega)⟩
        · have HN := Lib.hid hn
          have z0 := Z.out.c0; have z1 := Z.out.c1; have z2 := Z.out.c2; have z3 := Z.out.c3; have z4 := Z.out.c4; have z5 := Z.out.c5; have y := blk_frozen Z.out
          go_wp2_with fail
          obtain ⟨w9, hw9, Z9, F9⟩ := six Z.out (.slice none 0 0) (0) (0) (.slice none 0 0) (false) (0)
          rw [← hw9]
          clear hw9
          obtain rfl : r = 1 := by rw [PR.out]; unfold recvF; simp only; rw [if_neg (by rw [HZ.out]; simp), if_pos (Or.inl HN.out)]
          obtain rfl : x = z61 := by rw [PX.out]; unfold recvF; simp only; rw [if_neg (by rw [HZ.out]; simp), if_pos (Or.inl HN.out)]
          refine bodyPost_ret (v := .tuple #[.agg #[.slice none 0 0, .int .i64 (0), .int .i64 (0), .slice none 0 0, .bool false, .int .i64 (0)], .int .i64 (1)]) (by simp [results, Try.results46, go_sem, Z9.c0, Z9.c1, Z9.c2, Z9.c3, Z9.c4, Z9.c5]) rfl ⟨_, rfl, EndV.zero _ _, Fr.below F9 B0.out (Nat.le_refl _) (fun k hk => by omega)⟩
      · have HS := Lib.hid (show validBatch ⟨no, true, recs⟩ = false by unfold validBatch; simp [hl0])
        have hlz : ((recs.length : Int) == 0) = false := by simp only [beq_eq_false_iff_ne]; omega
        clear hl0
        go_wp2_with fail
        refine (in74_calls now w3).mono ?_
        rintro e w4 ⟨rfl, hb⟩
        replace EE := Lib.hid (EE.out.below hb)
        replace X := Lib.hid (X.out.below hb)
        clear hb b1 b2
        have b0 := X.out.c0
        have Z := Lib.hid (show EBlk w4 (w.heap.size + 2) 61 (.slice none 0 0) 0 0 (.slice none 0 0) false 0 from (EE.out.low.block _ (by have := N1.out; omega)).trans Z0.out)
        have B0 := Lib.hid (bb BW.out EE.out.low)
        cases hn : oddT now
        · have HN := Lib.hid hn
          go_wp2_with fail
          refine (in74_calls no w4).mono ?_
          rintro e w5 ⟨rfl, hb⟩
          replace EE := Lib.hid (EE.out.below hb)
          replace X := Lib.hid (X.out.below hb)
          replace Z := Lib.hid (Z.out.below hb)
          replace B0 := Lib.hid (bb B0.out hb)
          clear hb b0
          cases hno : oddT no
          · have HNO := Lib.hid hno
            have z0 := Z.out.c0; have z1 := Z.out.c1; have z2 := Z.out.c2; have z3 := Z.out.c3; have z4 := Z.out.c4; have z5 := Z.out.c5; have y := blk_frozen Z.out
            go_wp2_with fail
            obtain ⟨w9, hw9, Z9, F9⟩ := six Z.out (.slice none 0 0) (0) (0) (.slice none 0 0) (false) (0)
            rw [← hw9]
            clear hw9
            obtain rfl : r = 1 := by rw [PR.out]; unfold recvF; simp only; rw [if_neg (by rw [HZ.out]; simp), if_pos (Or.inr (Or.inr HS.out))]
            obtain rfl : x = z61 := by rw [PX.out]; unfold recvF; simp only; rw [if_neg (by rw [HZ.out]; simp), if_pos (Or.inr (Or.inr HS.out))]
            refine bodyPost_ret (v := .tuple #[.agg #[.slice none 0 0, .int .i64 (0), .int .i64 (0), .slice none 0 0, .bool false, .int .i64 (0)], .int .i64 (1)]) (by simp [results, Try.results46, go_sem, Z9.c0, Z9.c1, Z9.c2, Z9.c3, Z9.c4, Z9.c5]) rfl ⟨_, rfl, EndV.zero _ _, Fr.below F9 B0.out (Nat.le_refl _) (fun k hk => by omega)⟩
          · have HNO := Lib.hid hno
            have z0 := Z.out.c0; have z1 := Z.out.c1; have z2 := Z.out.c2; have z3 := Z.out.c3; have z4 := Z.out.c4; have z5 := Z.out.c5; have y := blk_frozen Z.out
            go_wp2_with fail
            obtain ⟨w9, hw9, Z9, F9⟩ := six Z.out (.slice none 0 0) (0) (0) (.slice none 0 0) (false) (0)
            rw [← hw9]
            clear hw9
            obtain rfl : r = 1 := by rw [PR.out]; unfold recvF; simp only; rw [if_neg (by rw [HZ.out]; simp), if_pos (Or.inr (Or.inl HNO.out))]
            obtain rfl : x = z61 := by rw [PX.out]; unfold recvF; simp only; rw [if_neg (by rw [HZ.out]; simp), if_pos (Or.inr (Or.inl HNO.out))]
            refine bodyPost_ret (v := .tuple #[.agg #[.slice none 0 0, .int .i64 (0), .int .i64 (0), .slice none 0 0, .bool false, .int .i64 (0)], .int .i64 (1)]) (by simp [results, Try.results46, go_sem, Z9.c0, Z9.c1, Z9.c2, Z9.c3, Z9.c4, Z9.c5]) rfl ⟨_, rfl, EndV.zero _ _, Fr.below F9 B0.out (Nat.le_refl _) (fun k hk => by omega)⟩
        · have HN := Lib.hid hn
          have z0 := Z.out.c0; have z1 := Z.out.c1; have z2 := Z.out.c2; have z3 := Z.out.c3; have z4 := Z.out.c4; have z5 := Z.out.c5; have y := blk_frozen Z.out
          go_wp2_with fail
          obtain ⟨w9, hw9, Z9, F9⟩ := six Z.out (.slice none 0 0) (0) (0) (.slice none 0 0) (false) (0)
          rw [← hw9]
          clear hw9
          obtain rfl : r = 1 := by rw [PR.out]; unfold recvF; simp only; rw [if_neg (by rw [HZ.out]; simp), if_pos (Or.inl HN.out)]
          obtain rfl : x = z61 := by rw [PX.out]; unfold recvF; simp only; rw [if_neg (by rw [HZ.out]; simp), if_pos (Or.inl HN.out)]
          refine bodyPost_ret (v := .tuple #[.agg #[.slice none 0 0, .int .i64 (0), .int .i64 (0), .slice none 0 0, .bool false, .int .i64 (0)], .int .i64 (1)]) (by simp [results, Try.results46, go_sem, Z9.c0, Z9.c1, Z9.c2, Z9.c3, Z9.c4, Z9.c5]) rfl ⟨_, rfl, EndV.zero _ _, Fr.below F9 B0.out (Nat.le_refl _) (fun k hk => by omega)⟩
end Go.Proofs.Ytbfhohpbldadbaa.P
