import Derived.Test.YtfjboaanpiceaaaExtO
namespace Go.Proofs.Ytfjboaanpiceaaa.P
open Go.RowKit Go.Proofs.YtfjboaanpiceaaaW.PrintWords Go.Proofs.YtfjboaanpiceaaaW.PrintLast Go.Proofs.YtfjboaanpiceaaaW.PrintMore
set_option linter.unusedVariables false
set_option linter.unusedSimpArgs false


set_option maxHeartbeats 2000000 in
theorem operate_restore_bad (gp : Nat) (a : Int) (b1 o1 c1 b2 o2 c2 : Nat) (r : Bool) (u0 u1 : Bool) (m0 m1 : Int) (i : Int) (w : World)
    (h1 : ∀ j v, [Value.bool u0, .bool u1][j]? = some v → w.cell? ((⟨b1, o1, none⟩ : Addr).add j) = some v) (h2 : ∀ j v, [Value.int .i64 m0, .int .i64 m1][j]? = some v → w.cell? ((⟨b2, o2, none⟩ : Addr).add j) = some v)
    (hv : validB a u0 u1 m0 m1 r = true) (hgp : w.cell? ⟨gp, 0, none⟩ = some (.int .i64 i)) (hm : (if knownB i && !up u0 u1 i then 0 else 330) = (330 : Int)) :
    Calls Try.prog 26 #[.agg #[.int .i64 a, .slice (some ⟨b1, o1, none⟩) 2 c1, .slice (some ⟨b2, o2, none⟩) 2 c2, .bool r], .int .i64 i, .func (.func 40) #[] #[.pointer (some ⟨gp, 0, none⟩)], .func (.func 41) #[] #[]] w (Bad 330 w) := by
  have hmf : ∀ (fn : Fn) (first cap : Array Value) (w : World), (Instr.makeFunc fn first cap).run Try.prog w = .ok (.func fn first cap) w := fun _ _ _ _ => rfl
  have H1 := Lib.hid h1
  have H2 := Lib.hid h2
  have HV := Lib.hid hv
  have HM := Lib.hid hm
  clear hm
  have HGP := Lib.hid hgp
  clear hgp
  clear h1 h2 hv
  go_enter Try.func26, Try.ntmps26
  go_wp2_with fail
  refine (load_two a b1 o1 c1 b2 o2 c2 r u0 u1 m0 m1 _ (two_below H1.out (below_alloc (below_alloc (Below.refl _ _) _) _)) (two_below H2.out (below_alloc (below_alloc (Below.refl _ _) _) _))).mono ?_
  rintro e w1 ⟨rfl, hb⟩
  have D := (DBlk.new0 (w.alloc (.cells #[.int .i64 a, .slice (some ⟨b1, o1, none⟩) 2 c1, .slice (some ⟨b2, o2, none⟩) 2 c2, .bool r] 25))).below hb
  have hs : (w.alloc (.cells #[.int .i64 a, .slice (some ⟨b1, o1, none⟩) 2 c1, .slice (some ⟨b2, o2, none⟩) 2 c2, .bool r] 25)).heap.size = w.heap.size + 1 := by simp
  rw [hs] at D
  have HB : Hid (Below w.heap.size w w1) := Lib.hid (below_then (below_alloc (below_alloc (Below.refl _ _) _) _) (by simp; omega) hb)
  have HD := Lib.hid D
  have hlt : w.heap.size + 1 < w1.heap.size := D.lt
  clear hb D hs
  go_wp2_with fail
  refine (valid_calls _ a u0 u1 m0 m1 r _ (PBlk.new _ _ _ _ _ _ _)).mono ?_
  rintro e w2 ⟨rfl, n, rfl⟩
  rw [HV.out]
  go_wp2_with fail
  refine (may40 _ gp a i u0 u1 m0 m1 r _ ((PBlk.new _ _ _ _ _ _ _).drewN _) (pw_cell_below (pw_below_drewN (below_alloc HB.out _) _) HGP.out)).mono ?_
  rintro e w3 ⟨rfl, n3, rfl⟩
  rw [HM.out]
  have d0 := HD.out.c0; have d1 := HD.out.c1; have d2 := HD.out.c2; have d3 := HD.out.c3; have df := HD.out.fr
  go_wp2_with fail
  refine bodyPost_ret (v := .tuple #[badD, .int .i64 330]) (by simp [results, Try.results26, go_sem, badD, *]) rfl ⟨rfl, ?_⟩
  refine Below.setCell (Below.setCell (Below.setCell (Below.setCell ?_ (by simp) _) (by simp) _) (by simp) _) (by simp) _
  exact pw_below_drewN (below_alloc HB.out _) _

set_option maxHeartbeats 2000000 in
theorem operate_restore_0n (gp : Nat) (b1 o1 c1 b2 o2 c2 : Nat) (r : Bool) (u0 u1 : Bool) (m0 m1 : Int) (w : World)
    (h1 : ∀ j v, [Value.bool u0, .bool u1][j]? = some v → w.cell? ((⟨b1, o1, none⟩ : Addr).add j) = some v) (h2 : ∀ j v, [Value.int .i64 m0, .int .i64 m1][j]? = some v → w.cell? ((⟨b2, o2, none⟩ : Addr).add j) = some v)
    (hv : validB (-1) u0 u1 m0 m1 r = true) (hgp : w.cell? ⟨gp, 0, none⟩ = some (.int .i64 0)) (hm : (if knownB 0 && !up u0 u1 0 then 0 else 330) = (0 : Int)) (ra n0 n1 : Int) (rr : Bool) (hra : ra = 0) (hrr : rr = r) (hn0 : n0 = m0) (hn1 : n1 = m1) :
    Calls Try.prog 26 #[.agg #[.int .i64 (-1), .slice (some ⟨b1, o1, none⟩) 2 c1, .slice (some ⟨b2, o2, none⟩) 2 c2, .bool r], .int .i64 0, .func (.func 40) #[] #[.pointer (some ⟨gp, 0, none⟩)], .func (.func 41) #[] #[]] w (Good ra true u1 n0 n1 rr w) := by
  have hmf : ∀ (fn : Fn) (first cap : Array Value) (w : World), (Instr.makeFunc fn first cap).run Try.prog w = .ok (.func fn first cap) w := fun _ _ _ _ => rfl
  have H1 := Lib.hid h1
  have H2 := Lib.hid h2
  have HV := Lib.hid hv
  have HM := Lib.hid hm
  clear hm
  have HGP := Lib.hid hgp
  clear hgp
  have HRA := Lib.hid hra
  have HRR := Lib.hid hrr
  have HN0 := Lib.hid hn0
  have HN1 := Lib.hid hn1
  clear hra hrr hn0 hn1
  clear h1 h2 hv
  go_enter Try.func26, Try.ntmps26
  go_wp2_with fail
  refine (load_two (-1) b1 o1 c1 b2 o2 c2 r u0 u1 m0 m1 _ (two_below H1.out (below_alloc (below_alloc (Below.refl _ _) _) _)) (two_below H2.out (below_alloc (below_alloc (Below.refl _ _) _) _))).mono ?_
  rintro e w1 ⟨rfl, hb⟩
  have D := (DBlk.new0 (w.alloc (.cells #[.int .i64 (-1), .slice (some ⟨b1, o1, none⟩) 2 c1, .slice (some ⟨b2, o2, none⟩) 2 c2, .bool r] 25))).below hb
  have hs : (w.alloc (.cells #[.int .i64 (-1), .slice (some ⟨b1, o1, none⟩) 2 c1, .slice (some ⟨b2, o2, none⟩) 2 c2, .bool r] 25)).heap.size = w.heap.size + 1 := by simp
  rw [hs] at D
  have HB : Hid (Below w.heap.size w w1) := Lib.hid (below_then (below_alloc (below_alloc (Below.refl _ _) _) _) (by simp; omega) hb)
  have HD := Lib.hid D
  have hlt : w.heap.size + 1 < w1.heap.size := D.lt
  clear hb D hs
  go_wp2_with fail
  refine (valid_calls _ (-1) u0 u1 m0 m1 r _ (PBlk.new _ _ _ _ _ _ _)).mono ?_
  rintro e w2 ⟨rfl, n, rfl⟩
  rw [HV.out]
  go_wp2_with fail
  refine (may40 _ gp (-1) 0 u0 u1 m0 m1 r _ ((PBlk.new _ _ _ _ _ _ _).drewN _) (pw_cell_below (pw_below_drewN (below_alloc HB.out _) _) HGP.out)).mono ?_
  rintro e w3 ⟨rfl, n3, rfl⟩
  rw [HM.out]
  go_wp2_with fail
  refine (with_41 _ _ ⟨_, rfl⟩).mono ?_
  rintro e w4 ⟨rfl, rfl⟩
  go_wp2_with fail
  refine (restore_0n _ u0 u1 m0 m1 r _ ((PBlk.new w1 (-1) u0 u1 m0 m1 r).drewN (n + n3))).mono ?_
  rintro e w5 ⟨rfl, hp5, ho5⟩
  have hp6 : PBlk w5 w1.heap.size ra true u1 n0 n1 rr := by rw [HRA.out, HRR.out, HN0.out, HN1.out]; exact hp5
  clear hp5
  have D5 := ((HD.out.alloc _).drewN _).only ho5 (by omega)
  have B5 : Below w.heap.size w w5 := ho5.below (pw_below_drewN (below_alloc HB.out _) _) (by omega) (by simp; omega)
  have hg : w.heap.size ≤ w1.heap.size := by omega
  have HG := Lib.hid hg
  have H5 := Lib.hid hp6
  have HB5 := Lib.hid B5
  have HD5 := Lib.hid D5
  clear hp6 ho5 D5 B5 hlt hg
  go_wp2_with fail
  refine (store_calls _ _ _ _ _ _ _ _ H5.out).mono ?_
  rintro e w6 ⟨rfl, hb6⟩
  have D6 := HD5.out.below hb6
  have H6 := Lib.hid (H5.out.below hb6)
  have HB6 := Lib.hid (below_then HB5.out (Nat.le_trans (Nat.le_of_lt (Nat.lt_of_succ_lt HD5.out.lt)) (Nat.le_refl _)) hb6)
  have hlt6 : w.heap.size + 1 < w1.heap.size := by have := HD.out.lt; omega
  have HL6 := Lib.hid hlt6
  have d0 := D6.c0; have d1 := D6.c1; have d2 := D6.c2; have d3 := D6.c3; have df := D6.fr
  clear hb6 D6 hlt6
  go_wp2_with fail
  refine bodyPost_ret (v := .tuple #[.agg #[.int .i64 ra, .slice (some ⟨w1.heap.size, 1, none⟩) 2 2, .slice (some ⟨w1.heap.size, 3, none⟩) 2 2, .bool rr], .int .i64 0]) (by simp [results, Try.results26, go_sem, *]) rfl ?_
  have hne : w1.heap.size ≠ w.heap.size + 1 := by have := HL6.out; omega
  exact ⟨w1.heap.size, rfl, (((H6.out.far (p := ⟨_, 0, none⟩) hne _).far (p := ⟨_, 1, none⟩) hne _).far (p := ⟨_, 2, none⟩) hne _).far (p := ⟨_, 3, none⟩) hne _, HG.out, Below.setCell (Below.setCell (Below.setCell (Below.setCell HB6.out (by simp) _) (by simp) _) (by simp) _) (by simp) _⟩

set_option maxHeartbeats 2000000 in
theorem operate_restore_01 (gp : Nat) (b1 o1 c1 b2 o2 c2 : Nat) (r : Bool) (u0 u1 : Bool) (m0 m1 : Int) (w : World)
    (h1 : ∀ j v, [Value.bool u0, .bool u1][j]? = some v → w.cell? ((⟨b1, o1, none⟩ : Addr).add j) = some v) (h2 : ∀ j v, [Value.int .i64 m0, .int .i64 m1][j]? = some v → w.cell? ((⟨b2, o2, none⟩ : Addr).add j) = some v)
    (hv : validB 1 u0 u1 m0 m1 r = true) (hgp : w.cell? ⟨gp, 0, none⟩ = some (.int .i64 0)) (hm : (if knownB 0 && !up u0 u1 0 then 0 else 330) = (0 : Int)) (ra n0 n1 : Int) (rr : Bool) (hra : ra = 1) (hrr : rr = r) (hn0 : n0 = m1) (hn1 : n1 = m1) :
    Calls Try.prog 26 #[.agg #[.int .i64 1, .slice (some ⟨b1, o1, none⟩) 2 c1, .slice (some ⟨b2, o2, none⟩) 2 c2, .bool r], .int .i64 0, .func (.func 40) #[] #[.pointer (some ⟨gp, 0, none⟩)], .func (.func 41) #[] #[]] w (Good ra true u1 n0 n1 rr w) := by
  have hmf : ∀ (fn : Fn) (first cap : Array Value) (w : World), (Instr.makeFunc fn first cap).run Try.prog w = .ok (.func fn first cap) w := fun _ _ _ _ => rfl
  have H1 := Lib.hid h1
  have H2 := Lib.hid h2
  have HV := Lib.hid hv
  have HM := Lib.hid hm
  clear hm
  have HGP := Lib.hid hgp
  clear hgp
  have HRA := Lib.hid hra
  have HRR := Lib.hid hrr
  have HN0 := Lib.hid hn0
  have HN1 := Lib.hid hn1
  clear hra hrr hn0 hn1
  clear h1 h2 hv
  go_enter Try.func26, Try.ntmps26
  go_wp2_with fail
  refine (load_two 1 b1 o1 c1 b2 o2 c2 r u0 u1 m0 m1 _ (two_below H1.out (below_alloc (below_alloc (Below.refl _ _) _) _)) (two_below H2.out (below_alloc (below_alloc (Below.refl _ _) _) _))).mono ?_
  rintro e w1 ⟨rfl, hb⟩
  have D := (DBlk.new0 (w.alloc (.cells #[.int .i64 1, .slice (some ⟨b1, o1, none⟩) 2 c1, .slice (some ⟨b2, o2, none⟩) 2 c2, .bool r] 25))).below hb
  have hs : (w.alloc (.cells #[.int .i64 1, .slice (some ⟨b1, o1, none⟩) 2 c1, .slice (some ⟨b2, o2, none⟩) 2 c2, .bool r] 25)).heap.size = w.heap.size + 1 := by simp
  rw [hs] at D
  have HB : Hid (Below w.heap.size w w1) := Lib.hid (below_then (below_alloc (below_alloc (Below.refl _ _) _) _) (by simp; omega) hb)
  have HD := Lib.hid D
  have hlt : w.heap.size + 1 < w1.heap.size := D.lt
  clear hb D hs
  go_wp2_with fail
  refine (valid_calls _ 1 u0 u1 m0 m1 r _ (PBlk.new _ _ _ _ _ _ _)).mono ?_
  rintro e w2 ⟨rfl, n, rfl⟩
  rw [HV.out]
  go_wp2_with fail
  refine (may40 _ gp 1 0 u0 u1 m0 m1 r _ ((PBlk.new _ _ _ _ _ _ _).drewN _) (pw_cell_below (pw_below_drewN (below_alloc HB.out _) _) HGP.out)).mono ?_
  rintro e w3 ⟨rfl, n3, rfl⟩
  rw [HM.out]
  go_wp2_with fail
  refine (with_41 _ _ ⟨_, rfl⟩).mono ?_
  rintro e w4 ⟨rfl, rfl⟩
  go_wp2_with fail
  refine (restore_01 _ u0 u1 m0 m1 r _ ((PBlk.new w1 1 u0 u1 m0 m1 r).drewN (n + n3))).mono ?_
  rintro e w5 ⟨rfl, hp5, ho5⟩
  have hp6 : PBlk w5 w1.heap.size ra true u1 n0 n1 rr := by rw [HRA.out, HRR.out, HN0.out, HN1.out]; exact hp5
  clear hp5
  have D5 := ((HD.out.alloc _).drewN _).only ho5 (by omega)
  have B5 : Below w.heap.size w w5 := ho5.below (pw_below_drewN (below_alloc HB.out _) _) (by omega) (by simp; omega)
  have hg : w.heap.size ≤ w1.heap.size := by omega
  have HG := Lib.hid hg
  have H5 := Lib.hid hp6
  have HB5 := Lib.hid B5
  have HD5 := Lib.hid D5
  clear hp6 ho5 D5 B5 hlt hg
  go_wp2_with fail
  refine (store_calls _ _ _ _ _ _ _ _ H5.out).mono ?_
  rintro e w6 ⟨rfl, hb6⟩
  have D6 := HD5.out.below hb6
  have H6 := Lib.hid (H5.out.below hb6)
  have HB6 := Lib.hid (below_then HB5.out (Nat.le_trans (Nat.le_of_lt (Nat.lt_of_succ_lt HD5.out.lt)) (Nat.le_refl _)) hb6)
  have hlt6 : w.heap.size + 1 < w1.heap.size := by have := HD.out.lt; omega
  have HL6 := Lib.hid hlt6
  have d0 := D6.c0; have d1 := D6.c1; have d2 := D6.c2; have d3 := D6.c3; have df := D6.fr
  clear hb6 D6 hlt6
  go_wp2_with fail
  refine bodyPost_ret (v := .tuple #[.agg #[.int .i64 ra, .slice (some ⟨w1.heap.size, 1, none⟩) 2 2, .slice (some ⟨w1.heap.size, 3, none⟩) 2 2, .bool rr], .int .i64 0]) (by simp [results, Try.results26, go_sem, *]) rfl ?_
  have hne : w1.heap.size ≠ w.heap.size + 1 := by have := HL6.out; omega
  exact ⟨w1.heap.size, rfl, (((H6.out.far (p := ⟨_, 0, none⟩) hne _).far (p := ⟨_, 1, none⟩) hne _).far (p := ⟨_, 2, none⟩) hne _).far (p := ⟨_, 3, none⟩) hne _, HG.out, Below.setCell (Below.setCell (Below.setCell (Below.setCell HB6.out (by simp) _) (by simp) _) (by simp) _) (by simp) _⟩

set_option maxHeartbeats 2000000 in
theorem operate_restore_1n (gp : Nat) (b1 o1 c1 b2 o2 c2 : Nat) (r : Bool) (u0 u1 : Bool) (m0 m1 : Int) (w : World)
    (h1 : ∀ j v, [Value.bool u0, .bool u1][j]? = some v → w.cell? ((⟨b1, o1, none⟩ : Addr).add j) = some v) (h2 : ∀ j v, [Value.int .i64 m0, .int .i64 m1][j]? = some v → w.cell? ((⟨b2, o2, none⟩ : Addr).add j) = some v)
    (hv : validB (-1) u0 u1 m0 m1 r = true) (hgp : w.cell? ⟨gp, 0, none⟩ = some (.int .i64 1)) (hm : (if knownB 1 && !up u0 u1 1 then 0 else 330) = (0 : Int)) (ra n0 n1 : Int) (rr : Bool) (hra : ra = 1) (hrr : rr = r) (hn0 : n0 = m0) (hn1 : n1 = m1) :
    Calls Try.prog 26 #[.agg #[.int .i64 (-1), .slice (some ⟨b1, o1, none⟩) 2 c1, .slice (some ⟨b2, o2, none⟩) 2 c2, .bool r], .int .i64 1, .func (.func 40) #[] #[.pointer (some ⟨gp, 0, none⟩)], .func (.func 41) #[] #[]] w (Good ra u0 true n0 n1 rr w) := by
  have hmf : ∀ (fn : Fn) (first cap : Array Value) (w : World), (Instr.makeFunc fn first cap).run Try.prog w = .ok (.func fn first cap) w := fun _ _ _ _ => rfl
  have H1 := Lib.hid h1
  have H2 := Lib.hid h2
  have HV := Lib.hid hv
  have HM := Lib.hid hm
  clear hm
  have HGP := Lib.hid hgp
  clear hgp
  have HRA := Lib.hid hra
  have HRR := Lib.hid hrr
  have HN0 := Lib.hid hn0
  have HN1 := Lib.hid hn1
  clear hra hrr hn0 hn1
  clear h1 h2 hv
  go_enter Try.func26, Try.ntmps26
  go_wp2_with fail
  refine (load_two (-1) b1 o1 c1 b2 o2 c2 r u0 u1 m0 m1 _ (two_below H1.out (below_alloc (below_alloc (Below.refl _ _) _) _)) (two_below H2.out (below_alloc (below_alloc (Below.refl _ _) _) _))).mono ?_
  rintro e w1 ⟨rfl, hb⟩
  have D := (DBlk.new0 (w.alloc (.cells #[.int .i64 (-1), .slice (some ⟨b1, o1, none⟩) 2 c1, .slice (some ⟨b2, o2, none⟩) 2 c2, .bool r] 25))).below hb
  have hs : (w.alloc (.cells #[.int .i64 (-1), .slice (some ⟨b1, o1, none⟩) 2 c1, .slice (some ⟨b2, o2, none⟩) 2 c2, .bool r] 25)).heap.size = w.heap.size + 1 := by simp
  rw [hs] at D
  have HB : Hid (Below w.heap.size w w1) := Lib.hid (below_then (below_alloc (below_alloc (Below.refl _ _) _) _) (by simp; omega) hb)
  have HD := Lib.hid D
  have hlt : w.heap.size + 1 < w1.heap.size := D.lt
  clear hb D hs
  go_wp2_with fail
  refine (valid_calls _ (-1) u0 u1 m0 m1 r _ (PBlk.new _ _ _ _ _ _ _)).mono ?_
  rintro e w2 ⟨rfl, n, rfl⟩
  rw [HV.out]
  go_wp2_with fail
  refine (may40 _ gp (-1) 1 u0 u1 m0 m1 r _ ((PBlk.new _ _ _ _ _ _ _).drewN _) (pw_cell_below (pw_below_drewN (below_alloc HB.out _) _) HGP.out)).mono ?_
  rintro e w3 ⟨rfl, n3, rfl⟩
  rw [HM.out]
  go_wp2_with fail
  refine (with_41 _ _ ⟨_, rfl⟩).mono ?_
  rintro e w4 ⟨rfl, rfl⟩
  go_wp2_with fail
  refine (restore_1n _ u0 u1 m0 m1 r _ ((PBlk.new w1 (-1) u0 u1 m0 m1 r).drewN (n + n3))).mono ?_
  rintro e w5 ⟨rfl, hp5, ho5⟩
  have hp6 : PBlk w5 w1.heap.size ra u0 true n0 n1 rr := by rw [HRA.out, HRR.out, HN0.out, HN1.out]; exact hp5
  clear hp5
  have D5 := ((HD.out.alloc _).drewN _).only ho5 (by omega)
  have B5 : Below w.heap.size w w5 := ho5.below (pw_below_drewN (below_alloc HB.out _) _) (by omega) (by simp; omega)
  have hg : w.heap.size ≤ w1.heap.size := by omega
  have HG := Lib.hid hg
  have H5 := Lib.hid hp6
  have HB5 := Lib.hid B5
  have HD5 := Lib.hid D5
  clear hp6 ho5 D5 B5 hlt hg
  go_wp2_with fail
  refine (store_calls _ _ _ _ _ _ _ _ H5.out).mono ?_
  rintro e w6 ⟨rfl, hb6⟩
  have D6 := HD5.out.below hb6
  have H6 := Lib.hid (H5.out.below hb6)
  have HB6 := Lib.hid (below_then HB5.out (Nat.le_trans (Nat.le_of_lt (Nat.lt_of_succ_lt HD5.out.lt)) (Nat.le_refl _)) hb6)
  have hlt6 : w.heap.size + 1 < w1.heap.size := by have := HD.out.lt; omega
  have HL6 := Lib.hid hlt6
  have d0 := D6.c0; have d1 := D6.c1; have d2 := D6.c2; have d3 := D6.c3; have df := D6.fr
  clear hb6 D6 hlt6
  go_wp2_with fail
  refine bodyPost_ret (v := .tuple #[.agg #[.int .i64 ra, .slice (some ⟨w1.heap.size, 1, none⟩) 2 2, .slice (some ⟨w1.heap.size, 3, none⟩) 2 2, .bool rr], .int .i64 0]) (by simp [results, Try.results26, go_sem, *]) rfl ?_
  have hne : w1.heap.size ≠ w.heap.size + 1 := by have := HL6.out; omega
  exact ⟨w1.heap.size, rfl, (((H6.out.far (p := ⟨_, 0, none⟩) hne _).far (p := ⟨_, 1, none⟩) hne _).far (p := ⟨_, 2, none⟩) hne _).far (p := ⟨_, 3, none⟩) hne _, HG.out, Below.setCell (Below.setCell (Below.setCell (Below.setCell HB6.out (by simp) _) (by simp) _) (by simp) _) (by simp) _⟩

set_option maxHeartbeats 2000000 in
theorem operate_restore_10 (gp : Nat) (b1 o1 c1 b2 o2 c2 : Nat) (r : Bool) (u0 u1 : Bool) (m0 m1 : Int) (w : World)
    (h1 : ∀ j v, [Value.bool u0, .bool u1][j]? = some v → w.cell? ((⟨b1, o1, none⟩ : Addr).add j) = some v) (h2 : ∀ j v, [Value.int .i64 m0, .int .i64 m1][j]? = some v → w.cell? ((⟨b2, o2, none⟩ : Addr).add j) = some v)
    (hv : validB 0 u0 u1 m0 m1 r = true) (hgp : w.cell? ⟨gp, 0, none⟩ = some (.int .i64 1)) (hm : (if knownB 1 && !up u0 u1 1 then 0 else 330) = (0 : Int)) (ra n0 n1 : Int) (rr : Bool) (hra : ra = 0) (hrr : rr = r) (hn0 : n0 = m0) (hn1 : n1 = m0) :
    Calls Try.prog 26 #[.agg #[.int .i64 0, .slice (some ⟨b1, o1, none⟩) 2 c1, .slice (some ⟨b2, o2, none⟩) 2 c2, .bool r], .int .i64 1, .func (.func 40) #[] #[.pointer (some ⟨gp, 0, none⟩)], .func (.func 41) #[] #[]] w (Good ra u0 true n0 n1 rr w) := by
  have hmf : ∀ (fn : Fn) (first cap : Array Value) (w : World), (Instr.makeFunc fn first cap).run Try.prog w = .ok (.func fn first cap) w := fun _ _ _ _ => rfl
  have H1 := Lib.hid h1
  have H2 := Lib.hid h2
  have HV := Lib.hid hv
  have HM := Lib.hid hm
  clear hm
  have HGP := Lib.hid hgp
  clear hgp
  have HRA := Lib.hid hra
  have HRR := Lib.hid hrr
  have HN0 := Lib.hid hn0
  have HN1 := Lib.hid hn1
  clear hra hrr hn0 hn1
  clear h1 h2 hv
  go_enter Try.func26, Try.ntmps26
  go_wp2_with fail
  refine (load_two 0 b1 o1 c1 b2 o2 c2 r u0 u1 m0 m1 _ (two_below H1.out (below_alloc (below_alloc (Below.refl _ _) _) _)) (two_below H2.out (below_alloc (below_alloc (Below.refl _ _) _) _))).mono ?_
  rintro e w1 ⟨rfl, hb⟩
  have D := (DBlk.new0 (w.alloc (.cells #[.int .i64 0, .slice (some ⟨b1, o1, none⟩) 2 c1, .slice (some ⟨b2, o2, none⟩) 2 c2, .bool r] 25))).below hb
  have hs : (w.alloc (.cells #[.int .i64 0, .slice (some ⟨b1, o1, none⟩) 2 c1, .slice (some ⟨b2, o2, none⟩) 2 c2, .bool r] 25)).heap.size = w.heap.size + 1 := by simp
  rw [hs] at D
  have HB : Hid (Below w.heap.size w w1) := Lib.hid (below_then (below_alloc (below_alloc (Below.refl _ _) _) _) (by simp; omega) hb)
  have HD := Lib.hid D
  have hlt : w.heap.size + 1 < w1.heap.size := D.lt
  clear hb D hs
  go_wp2_with fail
  refine (valid_calls _ 0 u0 u1 m0 m1 r _ (PBlk.new _ _ _ _ _ _ _)).mono ?_
  rintro e w2 ⟨rfl, n, rfl⟩
  rw [HV.out]
  go_wp2_with fail
  refine (may40 _ gp 0 1 u0 u1 m0 m1 r _ ((PBlk.new _ _ _ _ _ _ _).drewN _) (pw_cell_below (pw_below_drewN (below_alloc HB.out _) _) HGP.out)).mono ?_
  rintro e w3 ⟨rfl, n3, rfl⟩
  rw [HM.out]
  go_wp2_with fail
  refine (with_41 _ _ ⟨_, rfl⟩).mono ?_
  rintro e w4 ⟨rfl, rfl⟩
  go_wp2_with fail
  refine (restore_10 _ u0 u1 m0 m1 r _ ((PBlk.new w1 0 u0 u1 m0 m1 r).drewN (n + n3))).mono ?_
  rintro e w5 ⟨rfl, hp5, ho5⟩
  have hp6 : PBlk w5 w1.heap.size ra u0 true n0 n1 rr := by rw [HRA.out, HRR.out, HN0.out, HN1.out]; exact hp5
  clear hp5
  have D5 := ((HD.out.alloc _).drewN _).only ho5 (by omega)
  have B5 : Below w.heap.size w w5 := ho5.below (pw_below_drewN (below_alloc HB.out _) _) (by omega) (by simp; omega)
  have hg : w.heap.size ≤ w1.heap.size := by omega
  have HG := Lib.hid hg
  have H5 := Lib.hid hp6
  have HB5 := Lib.hid B5
  have HD5 := Lib.hid D5
  clear hp6 ho5 D5 B5 hlt hg
  go_wp2_with fail
  refine (store_calls _ _ _ _ _ _ _ _ H5.out).mono ?_
  rintro e w6 ⟨rfl, hb6⟩
  have D6 := HD5.out.below hb6
  have H6 := Lib.hid (H5.out.below hb6)
  have HB6 := Lib.hid (below_then HB5.out (Nat.le_trans (Nat.le_of_lt (Nat.lt_of_succ_lt HD5.out.lt)) (Nat.le_refl _)) hb6)
  have hlt6 : w.heap.size + 1 < w1.heap.size := by have := HD.out.lt; omega
  have HL6 := Lib.hid hlt6
  have d0 := D6.c0; have d1 := D6.c1; have d2 := D6.c2; have d3 := D6.c3; have df := D6.fr
  clear hb6 D6 hlt6
  go_wp2_with fail
  refine bodyPost_ret (v := .tuple #[.agg #[.int .i64 ra, .slice (some ⟨w1.heap.size, 1, none⟩) 2 2, .slice (some ⟨w1.heap.size, 3, none⟩) 2 2, .bool rr], .int .i64 0]) (by simp [results, Try.results26, go_sem, *]) rfl ?_
  have hne : w1.heap.size ≠ w.heap.size + 1 := by have := HL6.out; omega
  exact ⟨w1.heap.size, rfl, (((H6.out.far (p := ⟨_, 0, none⟩) hne _).far (p := ⟨_, 1, none⟩) hne _).far (p := ⟨_, 2, none⟩) hne _).far (p := ⟨_, 3, none⟩) hne _, HG.out, Below.setCell (Below.setCell (Below.setCell (Below.setCell HB6.out (by simp) _) (by simp) _) (by simp) _) (by simp) _⟩

end Go.Proofs.Ytfjboaanpiceaaa.P
