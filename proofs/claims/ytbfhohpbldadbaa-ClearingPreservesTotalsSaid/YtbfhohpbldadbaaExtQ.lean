import Derived.Test.YtbfhohpbldadbaaExtP
namespace Go.Proofs.Ytbfhohpbldadbaa.P
open Go Go.RowKit Go.Proofs.YtbfhohpbldadbaaW.PrintWords Go.Proofs.YtbfhohpbldadbaaW.PrintLast Go.Proofs.YtbfhohpbldadbaaW.PrintMore
set_option linter.unusedVariables false
set_option linter.unusedSimpArgs false
def isRef (ref : Int) (m : S33) : Bool := m.f0 == ref
theorem enters49 : Enters 49 := fun _ _ => by kernel_rfl
set_option maxHeartbeats 1000000 in
set_option maxRecDepth 100000 in
theorem stop1_calls (g : Nat) (ref : Int) (m : S33) (W : World) (h : Bx W g 3 (.int .i64 ref)) :
    Calls Try.prog 49 (#[.agg #[.int .i64 m.f0, .int .i64 m.f1, .int .i64 m.f2, .string m.f3, .int .i64 m.f4]] ++ #[.pointer (some ⟨g, 0, none⟩)]) W fun e W' => e = .returned (.bool (isRef ref m)) ∧ Below W.heap.size W W' := by
  have c0 := fun o => (h.below (below_one W o)).c0
  clear h
  go_enter Try.func49, Try.ntmps49
  go_wp2_with fail
  go_ret
  exact ⟨by simp [isRef], below_one _ _⟩
/-- What Stop makes of one meter. -/
def stopStep (bs : List S110) (nx rt : Int → Int) (ref now : Int) (p : List S33 × List S39) (m : S33) : List S33 × List S39 :=
  if isRef ref m = true then (p.1, if (advM bs nx rt now m p.2).1.f4 < now then (advM bs nx rt now m p.2).2 ++ [recOf (advM bs nx rt now m p.2).1 now (rt (advM bs nx rt now m p.2).1.f4)] else (advM bs nx rt now m p.2).2) else (p.1 ++ [m], p.2)
def stopFold (bs : List S110) (nx rt : Int → Int) (ref now : Int) (l : List S33) : List S33 × List S39 := l.foldl (stopStep bs nx rt ref now) ([], [])
theorem stopStep_mono (bs : List S110) (nx rt : Int → Int) (ref now : Int) (p : List S33 × List S39) (m : S33) : p.2.length ≤ (stopStep bs nx rt ref now p m).2.length := by
  have h := advM_len bs nx rt now m p.2
  unfold stopStep
  split
  · simp only
    split
    · rw [List.length_append]; omega
    · exact h
  · exact Nat.le_refl _
theorem stopFold_mono (bs : List S110) (nx rt : Int → Int) (ref now : Int) : ∀ (l : List S33) (p : List S33 × List S39), p.2.length ≤ (l.foldl (stopStep bs nx rt ref now) p).2.length
  | [], p => Nat.le_refl _
  | m :: l, p => Nat.le_trans (stopStep_mono bs nx rt ref now p m) (stopFold_mono bs nx rt ref now l (stopStep bs nx rt ref now p m))
theorem stopFold_take (bs : List S110) (nx rt : Int → Int) (ref now : Int) (l : List S33) (k : Nat) (hk : k < l.length) : stopFold bs nx rt ref now (l.take (k + 1)) = stopStep bs nx rt ref now (stopFold bs nx rt ref now (l.take k)) l[k] := by
  unfold stopFold
  rw [List.take_succ_eq_append_getElem hk, List.foldl_append]
  rfl
theorem stopFold_le (bs : List S110) (nx rt : Int → Int) (ref now : Int) (l : List S33) (k : Nat) : (stopFold bs nx rt ref now (l.take k)).2.length ≤ (stopFold bs nx rt ref now l).2.length := by
  have h := stopFold_mono bs nx rt ref now (l.drop k) (stopFold bs nx rt ref now (l.take k))
  have e : stopFold bs nx rt ref now l = (l.drop k).foldl (stopStep bs nx rt ref now) (stopFold bs nx rt ref now (l.take k)) := by
    unfold stopFold; rw [← List.foldl_append, List.take_append_drop]
  rw [e]; exact h
theorem stopFold_n (bs : List S110) (nx rt : Int → Int) (ref now : Int) : ∀ (l : List S33) (p : List S33 × List S39), (l.foldl (stopStep bs nx rt ref now) p).1.length ≤ p.1.length + l.length
  | [], p => Nat.le_refl _
  | m :: l, p => by
    have h := stopFold_n bs nx rt ref now l (stopStep bs nx rt ref now p m)
    have e : (stopStep bs nx rt ref now p m).1.length ≤ p.1.length + 1 := by
      unfold stopStep; split <;> simp
    simp only [List.foldl_cons, List.length_cons]
    omega
def stopF (l : List S33) (bs : List S110) (nx rt : Int → Int) (ref now chk : Int) : List S33 × List S39 × Int :=
  if oddT ref = true then ([], [], 1) else if beginF l now (isRef ref) chk = 0 then (if l.any (isRef ref) = true then (if 1024 < (stopFold bs nx rt ref now l).2.length then ([], [], 2) else ((stopFold bs nx rt ref now l).1, (stopFold bs nx rt ref now l).2, 0)) else ([], [], 270)) else ([], [], beginF l now (isRef ref) chk)
theorem cutAll_range {rt : Int → Int} {B : Int} : ∀ (ys : List Int) (m : S33) (rs : List S39), (∀ y ∈ ys, 0 ≤ y ∧ y ≤ B) → 0 ≤ m.f4 → m.f4 ≤ B → 0 ≤ (cutAll rt m rs ys).1.f4 ∧ (cutAll rt m rs ys).1.f4 ≤ B
  | [], m, rs, _, h0, h1 => ⟨h0, h1⟩
  | y :: ys, m, rs, h, _, _ => cutAll_range ys ⟨m.f0, m.f1, m.f2, m.f3, y⟩ _ (fun z hz => h z (List.mem_cons_of_mem _ hz)) (h y (by simp)).1 (h y (by simp)).2
theorem cutsOf_range {k : Nat} {bs : List S110} {nx rt : Int → Int} (htar : Tar k bs nx rt) {now cur : Int} (hn1 : now ≤ 1099511627776) (h0 : 0 ≤ cur) (h1 : cur ≤ 1099511627776) : ∀ y ∈ cutsOf bs nx now cur, 0 ≤ y ∧ y ≤ 1099511627776 := fun y hy => by
  unfold cutsOf at hy
  split at hy
  · simp at hy
  · next h => exact chgs_range (htar.up (by simpa using h)) hn1 _ _ h0 h1 y hy
theorem advM_range {k : Nat} {bs : List S110} {nx rt : Int → Int} (htar : Tar k bs nx rt) {now : Int} {m : S33} {rs : List S39} (hn1 : now ≤ 1099511627776) (h0 : 0 ≤ m.f4) (h1 : m.f4 ≤ 1099511627776) : 0 ≤ (advM bs nx rt now m rs).1.f4 ∧ (advM bs nx rt now m rs).1.f4 ≤ 1099511627776 :=
  cutAll_range _ m rs (fun y hy => cutsOf_range htar hn1 h0 h1 y (List.mem_of_mem_take hy)) h0 h1
theorem R33_move {W W' : World} {B : Nat} {v : Value} {xs : List S33} (h : k33.R 33 W B (fun _ => True) v xs) (hs : ∀ k, some k = v.ownBlock → W'.heap[k]? = W.heap[k]?) : k33.R 33 W' B (fun _ => True) v xs :=
  Kd.R_mono (Kd.R_step (Kd.R_tight rfl h) (fun k hk _ => hs k hk)) (fun _ _ => trivial)
theorem R33_cells {W : World} {B : Nat} {v : Value} {xs : List S33} (h : k33.R 33 W B (fun _ => True) v xs) {k : Nat} (hk : some k = v.ownBlock) : B ≤ k ∧ ∃ cells, W.heap[k]? = some (.cells cells 33 (0, 0)) := by
  refine ⟨((Kd.R_bound h).1 k hk.symm).2.1, ?_⟩
  obtain ⟨inner, ho⟩ := Kd.R_own h
  exact own_typed ho k hk.symm
/-- What Stop's loop holds. -/
structure SWorld (gc gref : Nat) (vb : Value) (ref : Int) (w W : World) (vr vx : Value) (p : List S33 × List S39) : Prop where
  low : Below w.heap.size w W
  c : CBlk W gc vb vr
  r : k39.R 39 W w.heap.size (fun _ => True) vr p.2
  x : k33.R 33 W w.heap.size (fun _ => True) vx p.1
  f : Bx W gref 3 (.int .i64 ref)
theorem SWorld.below {gc gref : Nat} {vb : Value} {ref : Int} {w W W' : World} {vr vx : Value} {p : List S33 × List S39} (h : SWorld gc gref vb ref w W vr vx p) (hb : Below W.heap.size W W') : SWorld gc gref vb ref w W' vr vx p :=
  ⟨bb h.low hb, h.c.below hb, Kd.R_below h.r hb, Kd.R_below h.x hb, h.f.below hb⟩
/-- A cut of a meter that lies in a box of its own. -/
theorem SWorld.cut {gc gref gm : Nat} {vb : Value} {ref : Int} {w W W' : World} {vr vx : Value} {p : List S33 × List S39} {rs' : List S39} {cs cs' : Array Value} {e : Ending} (h : SWorld gc gref vb ref w W vr vx p) (hm : W.heap[gm]? = some (.cells cs' 33 (0, 0))) (hx : some gm ≠ vx.ownBlock) (hgc : w.heap.size ≤ gc) (hgm : w.heap.size ≤ gm)
    (hp : CutPost vb vr rs' gc gm cs w.heap.size W e W') : ∃ vr', SWorld gc gref vb ref w W' vr' vx (p.1, rs') ∧ W'.heap[gm]? = some (.cells cs 33 (0, 0)) := by
  obtain ⟨_, vr', hc, hr, hown, hm', hf⟩ := hp
  refine ⟨vr', ⟨Fr.below hf h.low (Nat.le_refl _) (fun k hk => ?_), hc, hr, R33_move h.x (fun k hk => ?_), hf.blk h.f (fun hk => ?_)⟩, hm'⟩
  · rcases hk with e | e | e
    · omega
    · omega
    · exact (R39_cells h.r e).1
  · obtain ⟨_, cells, hcc⟩ := R33_cells h.x hk
    refine (hf.blk hcc (fun hb => ?_)).trans hcc.symm
    rcases hb with e | e | e
    · subst e; exact absurd rfl (blk_ne hcc h.c (by decide))
    · subst e; exact hx hk
    · exact Kd.R_ne h.r hcc (by decide) e
  · rcases hk with e | e | e
    · subst e; exact absurd rfl (blk_ne h.f h.c (by decide))
    · subst e; exact absurd rfl (blk_ne h.f hm (by decide))
    · exact Kd.R_ne h.r h.f (by decide) e
set_option maxHeartbeats 8000000 in
set_option maxRecDepth 100000 in
theorem Stop_calls (A : Option Addr) (c : Nat) (l : List S33) (A1 : Option Addr) (c1 : Nat) (bs : List S110) (nx rt : Int → Int) (ref now chk : Int) (k : Nat) (w : World)
    (hr : Kd.C k33 w A l.length l) (hr1 : Kd.C k110 w A1 bs.length bs) (hc1 : bs.length ≤ c1) (hk : tariff_Check.f k bs = some chk) (htar : chk = 0 → Tar k bs nx rt) (hl : l.length ≤ 1000000) :
    Calls Try.prog 19 #[.slice A l.length c, .agg #[.slice A1 bs.length c1], .int .i64 ref, .int .i64 now] w (MRPost (stopF l bs nx rt ref now chk).1 (stopF l bs nx rt ref now chk).2.1 (stopF l bs nx rt ref now chk).2.2 w) := by
  have hmf : ∀ (fn : Fn) (first cap : Array Value) (w : World), (Instr.makeFunc fn first cap).run Try.prog w = .ok (.func fn first cap) w := fun _ _ _ _ => rfl
  obtain ⟨r1, hr1e⟩ : ∃ r1, r1 = (stopF l bs nx rt ref now chk).1 := ⟨_, rfl⟩
  obtain ⟨r2, hr2e⟩ : ∃ r2, r2 = (stopF l bs nx rt ref now chk).2.1 := ⟨_, rfl⟩
  obtain ⟨r3, hr3e⟩ : ∃ r3, r3 = (stopF l bs nx rt ref now chk).2.2 := ⟨_, rfl⟩
  rw [← hr1e, ← hr2e, ← hr3e]
  have E1 := Lib.hid hr1e; have E2 := Lib.hid hr2e; have E3 := Lib.hid hr3e
  have HR := Lib.hid hr; have HR1 := Lib.hid hr1; have HC1 := Lib.hid hc1; have HK := Lib.hid hk; have HTAR := Lib.hid htar; have HL := Lib.hid hl
  clear hr1e hr2e hr3e hr hr1 hc1 hk htar hl
  go_enter Try.func19, Try.ntmps19
  go_wp2_with fail
  obtain ⟨w1, hw1⟩ : ∃ w1, w1 = (w.alloc (.cells #[.slice A1 bs.length c1] 25)).alloc (.cells #[.int .i64 ref] 3) := ⟨_, rfl⟩
  rw [← hw1]
  have hs1 : w1.heap.size = w.heap.size + 1 + 1 := by rw [hw1]; simp
  have B1 := Lib.hid (show Below w.heap.size w w1 by rw [hw1]; exact al (below_one _ _) _)
  have T1 := Lib.hid (show Bx w1 w.heap.size 25 (.slice A1 bs.length c1) by rw [hw1]; exact (Bx.new w 25 _).below (below_one _ _))
  have F1 := Lib.hid (show Bx w1 (w.heap.size + 1) 3 (.int .i64 ref) by rw [hw1]; have h := Bx.new (w.alloc (.cells #[.slice A1 bs.length c1] 25)) 3 (.int .i64 ref); rwa [World.size_alloc] at h)
  have hC := C1I w1 ref
  rw [hs1] at hC
  refine (inTime_calls (some ⟨w.heap.size + 1 + 1, 0, none⟩) 1 [ref] _ hC).mono ?_
  rintro e w2 ⟨rfl, hb⟩
  have hb2 : Below w1.heap.size w1 w2 := bb (below_one _ _) hb
  have B2 := Lib.hid (bb B1.out hb2)
  have T2 := Lib.hid (T1.out.below hb2)
  have F2 := Lib.hid (F1.out.below hb2)
  clear hw1 hs1 B1 T1 F1 hC hb hb2
  have ho : [ref].any oddT = oddT ref := by simp
  rw [ho]
  clear ho
  cases hod : oddT ref
  · have q0 := T2.out.c0
    go_wp2_with fail
    refine (begin_calls 49 #[.pointer (some ⟨w.heap.size + 1, 0, none⟩)] enters49 A c l A1 c1 bs now (isRef ref) k chk _ (Kd.C_below HR.out B2.out) (Kd.C_below HR1.out B2.out) HC1.out HK.out (fun m W hW => stop1_calls _ ref m W (F2.out.below hW))).mono ?_
    rintro e w3 ⟨hb, hor⟩
    have B3 := Lib.hid (bb B2.out hb)
    have F3 := Lib.hid (F2.out.below hb)
    have S2 := Lib.hid B2.out.size
    clear hb B2 T2 F2 q0
    rcases hor with ⟨hne, rfl⟩ | ⟨h0, gc, hgc, rfl, hcb⟩
    · have hz : (beginF l now (isRef ref) chk != 0) = true := by simpa using hne
      obtain ⟨err, herr⟩ : ∃ err, err = beginF l now (isRef ref) chk := ⟨_, rfl⟩
      rw [← herr] at hz ⊢
      have HE := Lib.hid herr
      have HNE := Lib.hid hne
      have HOD := Lib.hid hod
      clear herr hne hod
      go_wp2_with fail
      refine bodyPost_ret (results_tmp3 rfl _ _ _) rfl ?_
      have e1 : stopF l bs nx rt ref now chk = ([], [], err) := by unfold stopF; rw [if_neg (by rw [HOD.out]; decide), if_neg HNE.out, ← HE.out]
      obtain rfl : r1 = [] := by rw [E1.out, e1]
      obtain rfl : r2 = [] := by rw [E2.out, e1]
      obtain rfl : r3 = err := by rw [E3.out, e1]
      exact ⟨_, _, rfl, Kd.V_nil _ _ _ _ _, Kd.V_nil _ _ _ _ _, B3.out⟩
    · have HGC := Lib.hid (Nat.le_trans S2.out hgc)
      have HCB := Lib.hid hcb
      have H0 := Lib.hid h0
      obtain ⟨hv, hnow, hla, hchk⟩ := begin_ok h0
      have HV := Lib.hid hv; have HN := Lib.hid hnow; have TAR := Lib.hid (HTAR.out hchk); have HOD := Lib.hid hod
      clear hgc hcb h0 hv hnow hla hchk HTAR hod S2
      go_wp2_with fail
      refine (containsM 49 #[.pointer (some ⟨w.heap.size + 1, 0, none⟩)] enters49 A c l (isRef ref) _ (Kd.C_below HR.out B3.out) (fun m _ W hW => stop1_calls _ ref m W (F3.out.below hW))).mono ?_
      rintro e w4 ⟨rfl, hb⟩
      have HCB := Lib.hid (HCB.out.below hb)
      have F4 := Lib.hid (F3.out.below hb)
      have B4 := Lib.hid (bb B3.out hb)
      clear hb F3 B3
      cases hany : l.any (isRef ref)
      · go_wp2_with fail
        refine bodyPost_ret (results_tmp3 rfl _ _ _) rfl ?_
        have e1 : stopF l bs nx rt ref now chk = ([], [], 270) := by unfold stopF; rw [if_neg (by rw [HOD.out]; decide), if_pos H0.out, if_neg (by rw [hany]; decide)]
        obtain rfl : r1 = [] := by rw [E1.out, e1]
        obtain rfl : r2 = [] := by rw [E2.out, e1]
        obtain rfl : r3 = 270 := by rw [E3.out, e1]
        exact ⟨_, _, rfl, Kd.V_nil _ _ _ _ _, Kd.V_nil _ _ _ _ _, B4.out⟩
      · have HANY := Lib.hid hany
        clear hany
        go_wp2_with fail
        go_loopw [8, 9, 10, 14, 37] (fun v8 v9 v10 _ i W => v9 = .slice none 0 0 ∧ v10 = .int .i64 0 ∧ ∃ j : Nat, j ≤ l.length ∧ i = .int .i64 j ∧ (stopFold bs nx rt ref now (l.take j)).2.length ≤ 1024 ∧ ∃ vr, SWorld gc (w.heap.size + 1) (.slice A1 bs.length c1) ref w W vr v8 (stopFold bs nx rt ref now (l.take j))) (fun _ _ _ _ i _ => l.length - (intOf i).toNat)
        case atStart =>
          exact ⟨rfl, rfl, 0, Nat.zero_le _, rfl, Nat.zero_le _, _, B4.out, HCB.out, ⟨fun _ _ => trivial, OwnRow.none_ _ _ _ _ _⟩, ⟨fun _ _ => trivial, OwnRow.none_ _ _ _ _ _⟩, F4.out⟩
        case round =>
          obtain ⟨rfl, rfl, j, hj, rfl, hfull, vr, hS⟩ := hrel
          obtain ⟨p, hp⟩ : ∃ p, p = stopFold bs nx rt ref now (l.take j) := ⟨_, rfl⟩
          rw [← hp] at hfull hS
          have QF := Lib.hid hfull; have QS := Lib.hid hS; have QP := Lib.hid hp; have QJ := Lib.hid hj
          clear hfull hS hp hj HCB F4 B4
          have HLN := Lib.hid (show l.length ≤ 9223372036854775807 by have := HL.out; omega)
          by_cases hlt : j < l.length
          · have HLT := Lib.hid hlt
            obtain ⟨ad, hA, hat⟩ := M_cell (Kd.C_below HR.out QS.out.low) j hlt hlt
            have htime := time_of_ok (ok_of_valid l [] HV.out _ (List.getElem_mem hlt))
            obtain ⟨m, hm⟩ : ∃ m : S33, m = l[j]'hlt := ⟨_, rfl⟩
            replace hat : AtM wr (ad.add (j * 5)) m := by rw [hm]; exact hat
            replace htime : 0 ≤ m.f4 ∧ m.f4 ≤ 1099511627776 := by rw [hm]; exact htime
            subst hA
            have QM := Lib.hid hm; have QT := Lib.hid htime
            have c0 := hat.c0; have c1' := hat.c1; have c2 := hat.c2; have c3 := hat.c3; have c4 := hat.c4
            have i0 : (0 : Int) ≤ (j : Int) := by omega
            have i1 : (j : Int) < (l.length : Int) := by omega
            have hst : stopFold bs nx rt ref now (l.take (j + 1)) = stopStep bs nx rt ref now p m := by rw [stopFold_take _ _ _ _ _ _ _ hlt, ← QP.out, QM.out]
            have QST := Lib.hid hst
            clear hat hm htime hst
            go_wp2_with fail
            have X2 := Lib.hid (MBlk.new wr m)
            refine (stop1_calls _ ref m _ (QS.out.f.below (below_one _ _))).mono ?_
            rintro e W2 ⟨rfl, hb⟩
            have S2 := Lib.hid (QS.out.below (bb (below_one wr (.cells #[.int .i64 m.f0, .int .i64 m.f1, .int .i64 m.f2, .string m.f3, .int .i64 m.f4] 33)) hb))
            have X2 := Lib.hid (X2.out.below hb)
            have hgm : w.heap.size ≤ wr.heap.size := QS.out.low.size
            have hxo : some wr.heap.size ≠ u8.ownBlock := fun hk => by
              obtain ⟨_, cells, hcc⟩ := R33_cells QS.out.x hk
              exact absurd (heap_lt hcc) (Nat.lt_irrefl _)
            have HGM := Lib.hid hgm; have HXO := Lib.hid hxo
            clear hgm hxo hb c0 c1' c2 c3 c4 QS
            have x0 := X2.out.c0; have x1 := X2.out.c1; have x2 := X2.out.c2; have x3 := X2.out.c3; have x4 := X2.out.c4
            cases hir : isRef ref m
            · have hlt := HLT.out
              have hlen := HLN.out
              have hpn : p.1.length ≤ j := by rw [QP.out]; have := stopFold_n bs nx rt ref now (l.take j) ([], []); rw [List.length_take] at this; unfold stopFold; simp only [List.length_nil] at this; omega
              have HPN := Lib.hid hpn
              clear hpn
              go_wp2_with ((with_reducible refine gate_builtin (b := .append) (xs := #[.tmp 45, .tmp 47]) rfl ?_); at_builtin; refine Kd.R_append_rows (Rr := k33.K (W2.alloc (.cells #[.int .i64 m.f0, .int .i64 m.f1, .int .i64 m.f2, .string m.f3, .int .i64 m.f4] 33))) k33 (w0 := w) w.heap.size rfl (.tmp 45) (.tmp 47) 22 33 (.agg #[(.int .i64 0), (.int .i64 0), (.int .i64 0), (.string ⟨#[]⟩), (.int .i64 0)]) 48 rfl Try.underlying22 info33 rfl (by decide) (by omega) u8 p.1 [m] (some ⟨W2.heap.size, 0, none⟩) 1 1 (fun _ => True) (fun _ => False) rfl rfl (Kd.R_alloc S2.out.x _) (C1M W2 m) (fun y cs h => k33_open h ▸ k33_mkM _ _ _ y) (fun _ h => h.elim) (fun _ _ => trivial) (al S2.out.low _) (Nat.le_trans S2.out.low.size (below_one _ _).size) (by have := HPN.out; have := HL.out; omega) ?_; intro v3 w5 ho5 hb5 hg5 hat5)
              go_roundw
              case rel =>
                have hsx : stopStep bs nx rt ref now p m = (p.1 ++ [m], p.2) := by unfold stopStep; rw [if_neg (by rw [hir]; decide)]
                refine ⟨rfl, rfl, j + 1, HLT.out, by go_num, by rw [QST.out, hsx]; exact QF.out, vr, ?_⟩
                rw [QST.out, hsx]
                have hxa := Kd.R_alloc S2.out.x (.cells #[.int .i64 m.f0, .int .i64 m.f1, .int .i64 m.f2, .string m.f3, .int .i64 m.f4] 33)
                refine ⟨hb5, (S2.out.c.below (below_one _ _)).grown hg5 (Kd.R_ne hxa (S2.out.c.below (below_one _ _)) (by decide)), R39_move (Kd.R_alloc S2.out.r (.cells #[.int .i64 m.f0, .int .i64 m.f1, .int .i64 m.f2, .string m.f3, .int .i64 m.f4] 33)) (fun kk hk => ?_), ho5, blk_grown (S2.out.f.below (below_one _ _)) hg5 (Kd.R_ne hxa (S2.out.f.below (below_one _ _)) (by decide))⟩
                obtain ⟨_, cells, hcc⟩ := R39_cells (Kd.R_alloc S2.out.r (.cells #[.int .i64 m.f0, .int .i64 m.f1, .int .i64 m.f2, .string m.f3, .int .i64 m.f4] 33)) hk
                exact (blk_grown hcc hg5 (Kd.R_ne hxa hcc (by decide))).trans hcc.symm
              case measure => simp [intOf]; omega
            · have HIR := Lib.hid hir
              clear hir x0 x1 x2 x3 x4
              go_wp2_with fail
              refine (advM_calls k A1 c1 bs nx rt TAR.out vr p.2 gc wr.heap.size 0 #[.int .i64 m.f0, .int .i64 m.f1, .int .i64 m.f2, .string m.f3, .int .i64 m.f4] m now w W2 S2.out.c S2.out.r ⟨X2.out, rfl, rfl, rfl, rfl, rfl⟩ S2.out.low HGC.out HGM.out HR1.out HC1.out QT.out.1 QT.out.2 HN.out.2 QF.out).mono ?_
              rintro e W3 hp
              obtain ⟨q, hq⟩ : ∃ q, q = advM bs nx rt now m p.2 := ⟨_, rfl⟩
              rw [← hq] at hp
              obtain ⟨vr3, S3', hg3⟩ := S2.out.cut X2.out HXO.out HGC.out HGM.out hp
              obtain ⟨rfl, _⟩ := hp
              have S3 := Lib.hid S3'
              have hrng := advM_range TAR.out (rs := p.2) (now := now) (m := m) HN.out.2 QT.out.1 QT.out.2
              have hsame := advM_same bs nx rt now m p.2
              have hmost := advM_most bs nx rt now m p.2 (by have := QF.out; omega)
              rw [← hq] at hrng hsame hmost
              have HRNG := Lib.hid hrng; have HMOST := Lib.hid hmost; have HQ := Lib.hid hq
              have M3 : MRow W3 wr.heap.size #[.int .i64 m.f0, .int .i64 m.f1, .int .i64 m.f2, .string m.f3, .int .i64 q.1.f4] 0 q.1 := ⟨hg3, by rw [hsame.1]; rfl, by rw [hsame.2.1]; rfl, by rw [hsame.2.2.1]; rfl, by rw [hsame.2.2.2]; rfl, rfl⟩
              have G3 := Lib.hid M3
              have y4 := M3.c4
              simp only [Nat.zero_add] at y4
              clear S3' hg3 hrng hsame hmost hq M3
              cases hnow : decide (q.1.f4 < now)
              · have RST := Lib.hid (show stopStep bs nx rt ref now p m = (p.1, q.2) by unfold stopStep; rw [if_pos HIR.out, ← HQ.out, if_neg (of_decide_eq_false hnow)])
                obtain ⟨A3, c3, rfl⟩ := Kd.R_slice S3.out.r
                go_wp2_with fail
                refine (full_calls gc _ _ _ _ W3 S3.out.c).mono ?_
                rintro e W7 ⟨rfl, rfl⟩
                cases hfl : decide (1024 < ((q.2.length : Nat) : Int))
                · have hlt := HLT.out
                  have hlen := HLN.out
                  go_wp2_with fail
                  go_roundw
                  case rel =>
                    refine ⟨rfl, rfl, j + 1, HLT.out, by go_num, ?_, _, by rw [QST.out, RST.out]; exact S3.out⟩
                    rw [QST.out, RST.out]
                    have := of_decide_eq_false hfl
                    show (q.2).length ≤ 1024
                    omega
                  case measure => simp [intOf]; omega
                · go_wp2_with fail
                  refine bodyPost_ret (results_tmp3 rfl _ _ _) rfl ?_
                  have hle := stopFold_le bs nx rt ref now l (j + 1)
                  rw [QST.out, RST.out] at hle
                  have h1 := of_decide_eq_true hfl
                  have e1 : stopF l bs nx rt ref now chk = ([], [], 2) := by unfold stopF; rw [if_neg (by rw [HOD.out]; decide), if_pos H0.out, if_pos HANY.out, if_pos (by simp only at hle; omega)]
                  obtain rfl : r1 = [] := by rw [E1.out, e1]
                  obtain rfl : r2 = [] := by rw [E2.out, e1]
                  obtain rfl : r3 = 2 := by rw [E3.out, e1]
                  exact ⟨_, _, rfl, Kd.V_nil _ _ _ _ _, Kd.V_nil _ _ _ _ _, S3.out.low⟩
              · have RST := Lib.hid (show stopStep bs nx rt ref now p m = (p.1, q.2 ++ [recOf q.1 now (rt q.1.f4)]) by unfold stopStep; rw [if_pos HIR.out, ← HQ.out, if_pos (of_decide_eq_true hnow)])
                go_wp2_with fail
                refine (cut_calls k A1 c1 bs vr3 q.2 gc wr.heap.size 0 #[.int .i64 m.f0, .int .i64 m.f1, .int .i64 m.f2, .string m.f3, .int .i64 q.1.f4] q.1 now (rt q.1.f4) 0 w.heap.size W3 S3.out.c S3.out.r S3.out.low.size G3.out (Kd.C_below HR1.out S3.out.low) HC1.out (TAR.out.rate _ HRNG.out.1 HRNG.out.2) (by have := HMOST.out; omega)).mono ?_
                rintro e W4 hp
                obtain ⟨vr4, S4', _⟩ := S3.out.cut G3.out.blk HXO.out HGC.out HGM.out hp
                obtain ⟨rfl, _⟩ := hp
                have S4 := Lib.hid S4'
                clear S4' y4
                obtain ⟨A4, c4, rfl⟩ := Kd.R_slice S4.out.r
                go_wp2_with fail
                refine (full_calls gc _ _ _ _ W4 S4.out.c).mono ?_
                rintro e W7 ⟨rfl, rfl⟩
                cases hfl : decide (1024 < (((q.2 ++ [recOf q.1 now (rt q.1.f4)]).length : Nat) : Int))
                · have hlt := HLT.out
                  have hlen := HLN.out
                  go_wp2_with fail
                  go_roundw
                  case rel =>
                    refine ⟨rfl, rfl, j + 1, HLT.out, by go_num, ?_, _, by rw [QST.out, RST.out]; exact S4.out⟩
                    rw [QST.out, RST.out]
                    have := of_decide_eq_false hfl
                    show ((q.2 ++ [recOf q.1 now (rt q.1.f4)])).length ≤ 1024
                    omega
                  case measure => simp [intOf]; omega
                · go_wp2_with fail
                  refine bodyPost_ret (results_tmp3 rfl _ _ _) rfl ?_
                  have hle := stopFold_le bs nx rt ref now l (j + 1)
                  rw [QST.out, RST.out] at hle
                  have h1 := of_decide_eq_true hfl
                  have e1 : stopF l bs nx rt ref now chk = ([], [], 2) := by unfold stopF; rw [if_neg (by rw [HOD.out]; decide), if_pos H0.out, if_pos HANY.out, if_pos (by simp only at hle; omega)]
                  obtain rfl : r1 = [] := by rw [E1.out, e1]
                  obtain rfl : r2 = [] := by rw [E2.out, e1]
                  obtain rfl : r3 = 2 := by rw [E3.out, e1]
                  exact ⟨_, _, rfl, Kd.V_nil _ _ _ _ _, Kd.V_nil _ _ _ _ _, S4.out.low⟩
          · have hjl : j = l.length := by have := QJ.out; omega
            subst hjl
            have hpp : p = stopFold bs nx rt ref now l := by rw [QP.out, List.take_length]
            have QPP := Lib.hid hpp
            have q1 := QS.out.c.c1
            clear hpp hlt
            go_wp2_with fail
            go_region_held3 (fun w' => w'.cell? ⟨gc, 1, none⟩ = some vr) (go_keep) (fail)
            go_wp2_with fail
            refine bodyPost_ret (results_tmp3 rfl _ _ _) rfl ?_
            have e1 : stopF l bs nx rt ref now chk = (p.1, p.2, 0) := by unfold stopF; rw [if_neg (by rw [HOD.out]; decide), if_pos H0.out, if_pos HANY.out, ← QPP.out, if_neg (by have := QF.out; omega)]
            obtain rfl : r1 = p.1 := by rw [E1.out, e1]
            obtain rfl : r2 = p.2 := by rw [E2.out, e1]
            obtain rfl : r3 = 0 := by rw [E3.out, e1]
            exact ⟨_, _, rfl, Kd.V_drew (Kd.R_V (Kd.R_mono (Kd.R_bound QS.out.x) (fun kk hk => hk.2.1))), Kd.V_drew (Kd.R_V (Kd.R_mono (Kd.R_bound QS.out.r) (fun kk hk => hk.2.1))), below_drew QS.out.low⟩
  · go_wp2_with fail
    refine bodyPost_ret (results_tmp3 rfl _ _ _) rfl ?_
    have e1 : stopF l bs nx rt ref now chk = ([], [], 1) := by unfold stopF; rw [if_pos hod]
    obtain rfl : r1 = [] := by rw [E1.out, e1]
    obtain rfl : r2 = [] := by rw [E2.out, e1]
    obtain rfl : r3 = 1 := by rw [E3.out, e1]
    exact ⟨_, _, rfl, Kd.V_nil _ _ _ _ _, Kd.V_nil _ _ _ _ _, B2.out⟩
end Go.Proofs.Ytbfhohpbldadbaa.P
