import Derived.Test.YtbfhohpbldadbaaExtN
namespace Go.Proofs.Ytbfhohpbldadbaa.P
open Go Go.RowKit Go.Proofs.YtbfhohpbldadbaaW.PrintWords Go.Proofs.YtbfhohpbldadbaaW.PrintLast Go.Proofs.YtbfhohpbldadbaaW.PrintMore
set_option linter.unusedVariables false
set_option linter.unusedSimpArgs false
theorem add0 (g n : Nat) : (⟨g, 0, none⟩ : Addr).add n = ⟨g, n, none⟩ := by
  unfold Addr.add
  split
  · next h => rw [h]
  · simp
/-- The cells of a row of meters. -/
def Ent (cs : Array Value) (o : Nat) (m : S33) : Prop := cs[o]? = some (.int .i64 m.f0) ∧ cs[o + 1]? = some (.int .i64 m.f1) ∧ cs[o + 2]? = some (.int .i64 m.f2) ∧ cs[o + 3]? = some (.string m.f3) ∧ cs[o + 4]? = some (.int .i64 m.f4)
structure RowIs (W : World) (g : Nat) (cs : Array Value) (xs : List S33) : Prop where
  blk : W.heap[g]? = some (.cells cs 33 (0, 0))
  ent : ∀ i m, xs[i]? = some m → Ent cs (i * 5) m
theorem RowIs.mrow {W : World} {g : Nat} {cs : Array Value} {xs : List S33} (h : RowIs W g cs xs) {k : Nat} (m : S33) (hk : xs[k]? = some m) : MRow W g cs (k * 5) m := by
  obtain ⟨e0, e1, e2, e3, e4⟩ := h.ent k m hk
  exact ⟨h.blk, e0, e1, e2, e3, e4⟩
theorem RowIs.put {W : World} {g : Nat} {cs : Array Value} {xs : List S33} (h : ∀ i m, xs[i]? = some m → Ent cs (i * 5) m) {k : Nat} {m m' : S33} (hk : xs[k]? = some m) (hm : m'.f0 = m.f0 ∧ m'.f1 = m.f1 ∧ m'.f2 = m.f2 ∧ m'.f3 = m.f3)
    (hb : W.heap[g]? = some (.cells (cs.setIfInBounds (k * 5 + 4) (.int .i64 m'.f4)) 33 (0, 0))) : RowIs W g (cs.setIfInBounds (k * 5 + 4) (.int .i64 m'.f4)) (xs.set k m') := by
  refine ⟨hb, fun i q hq => ?_⟩
  have hlk := (h k m hk).2.2.2.2
  have hlt : k * 5 + 4 < cs.size := (Array.getElem?_eq_some_iff.1 hlk).1
  by_cases hi : i = k
  · subst hi
    have hlen : i < xs.length := (List.getElem?_eq_some_iff.1 hk).1
    rw [List.getElem?_set_self hlen] at hq
    cases hq
    obtain ⟨e0, e1, e2, e3, e4⟩ := h i m hk
    refine ⟨?_, ?_, ?_, ?_, ?_⟩
    · rw [Array.getElem?_setIfInBounds_ne (by omega), e0, hm.1]
    · rw [Array.getElem?_setIfInBounds_ne (by omega), e1, hm.2.1]
    · rw [Array.getElem?_setIfInBounds_ne (by omega), e2, hm.2.2.1]
    · rw [Array.getElem?_setIfInBounds_ne (by omega), e3, hm.2.2.2]
    · rw [Array.getElem?_setIfInBounds_self_of_lt hlt]
  · rw [List.getElem?_set_ne (Ne.symm hi)] at hq
    obtain ⟨e0, e1, e2, e3, e4⟩ := h i q hq
    refine ⟨?_, ?_, ?_, ?_, ?_⟩
    all_goals rw [Array.getElem?_setIfInBounds_ne (by omega)]; assumption
theorem RowIs.C {W : World} {g : Nat} {cs : Array Value} {xs : List S33} (h : RowIs W g cs xs) (hl : xs.length ≤ 9223372036854775807) : Kd.C k33 W (some ⟨g, 0, none⟩) xs.length xs := by
  refine ⟨rfl, hl, fun _ => ⟨_, rfl, fun j p hj => ?_⟩⟩
  obtain ⟨e0, e1, e2, e3, e4⟩ := h.ent j p hj
  refine ⟨[.int .i64 p.f0, .int .i64 p.f1, .int .i64 p.f2, .string p.f3, .int .i64 p.f4], rfl, k33_mk _ p, fun i u hi => ?_⟩
  have hc : ∀ i, W.cell? ((⟨g, 0, none⟩ : Addr).add (j * 5 + i)) = cs[j * 5 + i]? := fun i => by
    rw [add0]; exact blk_cell h.blk (j * 5 + i)
  refine (hc i).trans ?_
  match i, hi with
  | 0, hi => obtain rfl := (by simpa using hi); exact e0
  | 1, hi => obtain rfl := (by simpa using hi); exact e1
  | 2, hi => obtain rfl := (by simpa using hi); exact e2
  | 3, hi => obtain rfl := (by simpa using hi); exact e3
  | 4, hi => obtain rfl := (by simpa using hi); exact e4
  | (n + 5), hi => simp at hi
theorem RowIs.V {W : World} {g B : Nat} {cs : Array Value} {xs : List S33} {cap : Nat} (h : RowIs W g cs xs) (hl : xs.length ≤ 9223372036854775807) (hc : xs.length ≤ cap) {ok : Nat → Prop} (hok : ok g) : Kd.V k33 33 W B ok (.slice (some ⟨g, 0, none⟩) xs.length cap) xs := by
  refine Kd.V_mk hc ?_
  intro W' hW
  exact RowIs.C ⟨(hW g hok (heap_lt h.blk)).trans h.blk, h.ent⟩ hl
theorem RowIs.of_R {W : World} {B : Nat} {g cap : Nat} {xs : List S33} {ok : Nat → Prop} (h : k33.R 33 W B ok (.slice (some ⟨g, 0, none⟩) xs.length cap) xs) {cs : Array Value} (hb : W.heap[g]? = some (.cells cs 33 (0, 0))) : RowIs W g cs xs := by
  refine ⟨hb, fun i m hi => ?_⟩
  have hlt : i < xs.length := (List.getElem?_eq_some_iff.1 hi).1
  obtain ⟨ad, e, hat⟩ := M_cell (Kd.R_reads' h).2.2 i hlt hlt
  cases e
  have hm : xs[i] = m := (List.getElem?_eq_some_iff.1 hi).2
  rw [hm] at hat
  have hc : ∀ j, W.cell? ⟨g, i * 5 + j, none⟩ = cs[i * 5 + j]? := fun j => blk_cell hb _
  have h0 := hat.c0; have h1 := hat.c1; have h2 := hat.c2; have h3 := hat.c3; have h4 := hat.c4
  rw [add0] at h0 h1 h2 h3 h4
  exact ⟨(hc 0).symm.trans h0, (hc 1).symm.trans h1, (hc 2).symm.trans h2, (hc 3).symm.trans h3, (hc 4).symm.trans h4⟩
/-! ### The plain side -/
def chgs (nx : Int → Int) (now : Int) : Nat → Int → List Int
  | 0, _ => []
  | n + 1, cur => if nx cur ≤ now then nx cur :: chgs nx now n (nx cur) else []
theorem chgs_ch {nx : Int → Int} {now : Int} (hup : ∀ t, 0 ≤ t → t ≤ 1099511627776 → t < nx t) (hnow : now ≤ 1099511627776) : ∀ (n : Nat) (cur : Int), 0 ≤ cur → cur ≤ 1099511627776 → (now - cur).toNat ≤ n → Ch nx now cur (chgs nx now n cur)
  | 0, cur, h0, h1, hn => by
    have := hup cur h0 h1
    show now < nx cur
    omega
  | n + 1, cur, h0, h1, hn => by
    have hu := hup cur h0 h1
    unfold chgs
    split
    · next h => exact ⟨rfl, h, chgs_ch hup hnow n (nx cur) (by omega) (by omega) (by omega)⟩
    · next h => exact Int.not_le.1 h
theorem chgs_range {nx : Int → Int} {now : Int} (hup : ∀ t, 0 ≤ t → t ≤ 1099511627776 → t < nx t) (hnow : now ≤ 1099511627776) : ∀ (n : Nat) (cur : Int), 0 ≤ cur → cur ≤ 1099511627776 → ∀ y ∈ chgs nx now n cur, 0 ≤ y ∧ y ≤ 1099511627776
  | 0, cur, h0, h1 => fun y hy => by simp [chgs] at hy
  | n + 1, cur, h0, h1 => fun y hy => by
    have hu := hup cur h0 h1
    unfold chgs at hy
    split at hy
    · next h =>
      rcases List.mem_cons.1 hy with e | e
      · subst e; omega
      · exact chgs_range hup hnow n (nx cur) (by omega) (by omega) y e
    · simp at hy
/-- The times at which 'advance' cuts. -/
def cutsOf (bs : List S110) (nx : Int → Int) (now : Int) (cur : Int) : List Int := if flatB bs = true then [] else chgs nx now (now - cur).toNat cur
/-- What 'advance' makes of a meter and the records so far. -/
def advM (bs : List S110) (nx rt : Int → Int) (now : Int) (m : S33) (rs : List S39) : S33 × List S39 := cutAll rt m rs ((cutsOf bs nx now m.f4).take (1025 - rs.length))
theorem advM_len (bs : List S110) (nx rt : Int → Int) (now : Int) (m : S33) (rs : List S39) : rs.length ≤ (advM bs nx rt now m rs).2.length := by
  unfold advM; rw [cutAll_len]; omega
theorem advM_same (bs : List S110) (nx rt : Int → Int) (now : Int) (m : S33) (rs : List S39) : (advM bs nx rt now m rs).1.f0 = m.f0 ∧ (advM bs nx rt now m rs).1.f1 = m.f1 ∧ (advM bs nx rt now m rs).1.f2 = m.f2 ∧ (advM bs nx rt now m rs).1.f3 = m.f3 := cutAll_same _ _ _ _
theorem advM_most (bs : List S110) (nx rt : Int → Int) (now : Int) (m : S33) (rs : List S39) (h : rs.length ≤ 1025) : (advM bs nx rt now m rs).2.length ≤ 1025 := by
  unfold advM; rw [cutAll_len, List.length_take]; omega
theorem advM_calls (k : Nat) (A1 : Option Addr) (c1 : Nat) (bs : List S110) (nx rt : Int → Int) (htar : Tar k bs nx rt) (vr : Value) (rs : List S39) (gc gm o : Nat) (cs : Array Value) (m : S33) (now : Int) (wb W : World)
    (hC : CBlk W gc (.slice A1 bs.length c1) vr) (hR : k39.R 39 W wb.heap.size (fun _ => True) vr rs) (hm : MRow W gm cs o m) (hb : Below wb.heap.size wb W) (hgc : wb.heap.size ≤ gc) (hgm : wb.heap.size ≤ gm) (hrb : Kd.C k110 wb A1 bs.length bs) (hc1 : bs.length ≤ c1)
    (hf0 : 0 ≤ m.f4) (hf1 : m.f4 ≤ 1099511627776) (hn1 : now ≤ 1099511627776) (hl : rs.length ≤ 1024) :
    Calls Try.prog 53 #[.pointer (some ⟨gc, 0, none⟩), .pointer (some ⟨gm, o, none⟩), .int .i64 now] W
      (CutPost (.slice A1 bs.length c1) vr (advM bs nx rt now m rs).2 gc gm (cs.setIfInBounds (o + 4) (.int .i64 (advM bs nx rt now m rs).1.f4)) wb.heap.size W) := by
  refine advance_calls k A1 c1 bs nx rt htar vr rs gc gm o cs m now wb W hC hR hm hb hgc hgm hrb hc1 hf0 hf1 hn1 (cutsOf bs nx now m.f4) (fun h => by simp [cutsOf, h]) (fun h => ?_) (fun y hy => ?_) hl
  · simp only [cutsOf, h, Bool.false_eq_true, if_false]
    exact chgs_ch (htar.up h) hn1 _ _ hf0 hf1 (Nat.le_refl _)
  · unfold cutsOf at hy
    split at hy
    · simp at hy
    · next h => exact chgs_range (htar.up (by simpa using h)) hn1 _ _ hf0 hf1 y hy
def advStep (bs : List S110) (nx rt : Int → Int) (now : Int) (p : List S33 × List S39) (m : S33) : List S33 × List S39 := (p.1 ++ [(advM bs nx rt now m p.2).1], (advM bs nx rt now m p.2).2)
def advFold (bs : List S110) (nx rt : Int → Int) (now : Int) (l : List S33) : List S33 × List S39 := l.foldl (advStep bs nx rt now) ([], [])
theorem advFold_mono (bs : List S110) (nx rt : Int → Int) (now : Int) : ∀ (l : List S33) (p : List S33 × List S39), p.2.length ≤ (l.foldl (advStep bs nx rt now) p).2.length
  | [], p => Nat.le_refl _
  | m :: l, p => Nat.le_trans (advM_len bs nx rt now m p.2) (advFold_mono bs nx rt now l (advStep bs nx rt now p m))
theorem advFold_take (bs : List S110) (nx rt : Int → Int) (now : Int) (l : List S33) (k : Nat) (hk : k < l.length) : advFold bs nx rt now (l.take (k + 1)) = advStep bs nx rt now (advFold bs nx rt now (l.take k)) l[k] := by
  unfold advFold
  rw [List.take_succ_eq_append_getElem hk, List.foldl_append]
  rfl
theorem advFold_le (bs : List S110) (nx rt : Int → Int) (now : Int) (l : List S33) (k : Nat) : (advFold bs nx rt now (l.take k)).2.length ≤ (advFold bs nx rt now l).2.length := by
  have h := advFold_mono bs nx rt now (l.drop k) (advFold bs nx rt now (l.take k))
  have e : advFold bs nx rt now l = (l.drop k).foldl (advStep bs nx rt now) (advFold bs nx rt now (l.take k)) := by
    unfold advFold; rw [← List.foldl_append, List.take_append_drop]
  rw [e]; exact h
theorem advFold_n (bs : List S110) (nx rt : Int → Int) (now : Int) : ∀ (l : List S33) (p : List S33 × List S39), (l.foldl (advStep bs nx rt now) p).1.length = p.1.length + l.length
  | [], p => rfl
  | m :: l, p => by
    have h := advFold_n bs nx rt now l (advStep bs nx rt now p m)
    have e : (advStep bs nx rt now p m).1.length = p.1.length + 1 := by simp [advStep]
    simp only [List.foldl_cons, List.length_cons]
    rw [h, e]; omega
def advanceF (l : List S33) (bs : List S110) (nx rt : Int → Int) (now chk : Int) : List S33 × List S39 × Int :=
  if beginF l now (fun _ => true) chk = 0 then (if 1024 < (advFold bs nx rt now l).2.length then ([], [], 2) else ((advFold bs nx rt now l).1, (advFold bs nx rt now l).2, 0)) else ([], [], beginF l now (fun _ => true) chk)
theorem ok_of_valid : ∀ (l : List S33) (ks : List (Int × Int)), validFrom ks l = true → ∀ m ∈ l, okOne m = true
  | [], ks, _ => fun m hm => by simp at hm
  | x :: l, ks, h => fun m hm => by
    simp only [validFrom, Bool.and_eq_true] at h
    rcases List.mem_cons.1 hm with e | e
    · subst e; exact h.1.1
    · exact ok_of_valid l _ h.2 m e
theorem time_of_ok {m : S33} (h : okOne m = true) : 0 ≤ m.f4 ∧ m.f4 ≤ 1099511627776 := by
  simp only [okOne, Bool.and_eq_true, Bool.not_eq_true', Bool.or_eq_false_iff, oddT, decide_eq_false_iff_not] at h
  omega
theorem begin_ok {l : List S33} {now : Int} {p : S33 → Bool} {chk : Int} (h : beginF l now p chk = 0) : validB l = true ∧ (0 ≤ now ∧ now ≤ 1099511627776) ∧ l.any (lateP p now) = false ∧ chk = 0 := by
  unfold beginF at h
  split at h
  · next hc =>
    simp only [Bool.and_eq_true, Bool.not_eq_true', oddT, Bool.or_eq_false_iff, decide_eq_false_iff_not] at hc
    exact ⟨hc.1.1, by omega, hc.2, h⟩
  · cases h
def MRPost (r1 : List S33) (r2 : List S39) (r3 : Int) (w : World) (e : Ending) (w' : World) : Prop := ∃ v0_ v1_ : Value, e = .returned (.tuple #[v0_, v1_, .int .i64 r3]) ∧ Kd.V k33 33 w' w.heap.size (fun k_ => (w.heap.size ≤ k_)) v0_ r1 ∧ Kd.V k39 39 w' w.heap.size (fun k_ => (w.heap.size ≤ k_)) v1_ r2 ∧ Below w.heap.size w w'
theorem enters62 : Enters 62 := fun _ _ => by kernel_rfl
set_option maxHeartbeats 1000000 in
set_option maxRecDepth 100000 in
theorem always_calls (w : World) : PredAll 62 #[] w (fun _ => true) := by
  intro m W _
  go_enter Try.func62, Try.ntmps62
  go_wp2_with fail
  go_ret
  exact ⟨rfl, below_one _ _⟩
/-- Between two rounds of Advance's loop. -/
def AInv (l : List S33) (bs : List S110) (nx rt : Int → Int) (now : Int) (gc : Nat) (vb : Value) (Ax : Option Addr) (w : World) (k : Nat) (W : World) : Prop :=
  (advFold bs nx rt now (l.take k)).2.length ≤ 1024 ∧ Below w.heap.size w W ∧ (∃ vr, CBlk W gc vb vr ∧ k39.R 39 W w.heap.size (fun _ => True) vr (advFold bs nx rt now (l.take k)).2) ∧
    (0 < l.length → ∃ gx cs, Ax = some ⟨gx, 0, none⟩ ∧ w.heap.size ≤ gx ∧ RowIs W gx cs ((advFold bs nx rt now (l.take k)).1 ++ l.drop k))
theorem set_mid {α : Type} {xs l : List α} {k : Nat} (hx : xs.length = k) (hk : k < l.length) (m : α) : (xs ++ l.drop k).set k m = (xs ++ [m]) ++ l.drop (k + 1) := by
  subst hx
  rw [List.set_append_right _ _ (Nat.le_refl _), Nat.sub_self, List.drop_eq_getElem_cons hk]
  simp only [List.set_cons_zero, List.append_assoc, List.singleton_append]
theorem get_mid {α : Type} {xs l : List α} {k : Nat} (hx : xs.length = k) (hk : k < l.length) : (xs ++ l.drop k)[k]? = some l[k] := by
  subst hx
  rw [List.getElem?_append_right (Nat.le_refl _)]
  simp
set_option maxHeartbeats 8000000 in
set_option maxRecDepth 100000 in
theorem Advance_calls (A : Option Addr) (c : Nat) (l : List S33) (A1 : Option Addr) (c1 : Nat) (bs : List S110) (nx rt : Int → Int) (now chk : Int) (k : Nat) (w : World)
    (hr : Kd.C k33 w A l.length l) (hr1 : Kd.C k110 w A1 bs.length bs) (hc1 : bs.length ≤ c1) (hk : tariff_Check.f k bs = some chk) (htar : chk = 0 → Tar k bs nx rt) (hl : l.length ≤ 1000000) :
    Calls Try.prog 25 #[.slice A l.length c, .agg #[.slice A1 bs.length c1], .int .i64 now] w (MRPost (advanceF l bs nx rt now chk).1 (advanceF l bs nx rt now chk).2.1 (advanceF l bs nx rt now chk).2.2 w) := by
  obtain ⟨r1, hr1e⟩ : ∃ r1, r1 = (advanceF l bs nx rt now chk).1 := ⟨_, rfl⟩
  obtain ⟨r2, hr2e⟩ : ∃ r2, r2 = (advanceF l bs nx rt now chk).2.1 := ⟨_, rfl⟩
  obtain ⟨r3, hr3e⟩ : ∃ r3, r3 = (advanceF l bs nx rt now chk).2.2 := ⟨_, rfl⟩
  rw [← hr1e, ← hr2e, ← hr3e]
  have E1 := Lib.hid hr1e; have E2 := Lib.hid hr2e; have E3 := Lib.hid hr3e
  have HR := Lib.hid hr; have HR1 := Lib.hid hr1; have HC1 := Lib.hid hc1; have HK := Lib.hid hk; have HTAR := Lib.hid htar; have HL := Lib.hid hl
  clear hr1e hr2e hr3e hr hr1 hc1 hk htar hl
  go_enter Try.func25, Try.ntmps25
  have HT := Lib.hid (Bx.new w 25 (.slice A1 bs.length c1))
  have q0 := fun v => (Bx.new w 25 v).c0
  go_wp2_with fail
  clear q0
  refine (begin_calls 62 #[] enters62 A c l A1 c1 bs now (fun _ => true) k chk _ (Kd.C_below HR.out (below_one _ _)) (Kd.C_below HR1.out (below_one _ _)) HC1.out HK.out (always_calls _)).mono ?_
  rintro e w1 ⟨hb, (⟨hne, rfl⟩ | ⟨h0, gc, hgc, rfl, hcb⟩)⟩
  · have HB := Lib.hid (bb (below_one _ _) hb)
    clear hb
    have hz : (beginF l now (fun _ => true) chk != 0) = true := by simpa using hne
    obtain ⟨err, herr⟩ : ∃ err, err = beginF l now (fun _ => true) chk := ⟨_, rfl⟩
    rw [← herr] at hz ⊢
    have HE := Lib.hid herr
    have HNE := Lib.hid hne
    clear herr hne
    go_wp2_with fail
    refine bodyPost_ret (results_tmp3 rfl _ _ _) rfl ?_
    have e1 : advanceF l bs nx rt now chk = ([], [], err) := by unfold advanceF; rw [if_neg HNE.out, ← HE.out]
    obtain rfl : r1 = [] := by rw [E1.out, e1]
    obtain rfl : r2 = [] := by rw [E2.out, e1]
    obtain rfl : r3 = err := by rw [E3.out, e1]
    exact ⟨_, _, rfl, Kd.V_nil _ _ _ _ _, Kd.V_nil _ _ _ _ _, HB.out⟩
  · have HGC := Lib.hid (show w.heap.size ≤ gc from Nat.le_trans (below_one w (.cells #[.slice A1 bs.length c1] 25)).size hgc)
    have HB := Lib.hid (bb (below_one _ _) hb)
    have HCB := Lib.hid hcb
    have H0 := Lib.hid h0
    clear hb hgc hcb h0
    obtain ⟨hv, hnow, hla, hchk⟩ := begin_ok H0.out
    have HV := Lib.hid hv; have HN := Lib.hid hnow; have HLA := Lib.hid hla; have HCK := Lib.hid hchk
    have TAR := Lib.hid (HTAR.out hchk)
    clear hv hnow hla hchk HTAR
    go_wp2_with fail
    refine (cloneM A c l _ (Kd.C_below HR.out HB.out) (by have := HL.out; omega)).mono ?_
    rintro e w2 ⟨v', rfl, ho, hb⟩
    have HCB := Lib.hid (HCB.out.below hb)
    have HB1 := HB
    have HB := Lib.hid (bb HB.out hb)
    obtain ⟨Ax, cx, rfl⟩ := Kd.R_slice ho
    have hcap := (Kd.R_reads' ho).2.1
    have HCAP := Lib.hid hcap
    have hrow : 0 < l.length → ∃ gx cs, Ax = some ⟨gx, 0, none⟩ ∧ w.heap.size ≤ gx ∧ RowIs w2 gx cs l := fun hp => by
      obtain ⟨gx, cap, he, hbx, _, cells, hcell⟩ := Kd.R_form ho hp
      injection he with h1 _ h3
      subst h1 h3
      exact ⟨gx, cells, rfl, Nat.le_trans HB1.out.size hbx, RowIs.of_R ho hcell⟩
    have HROW := Lib.hid hrow
    have HO := Lib.hid ho
    clear hrow hcap ho hb HB1
    go_wp2_with fail
    go_loopw [6, 7, 8, 10, 25] (fun v6 v7 v8 _ i W => v6 = .slice Ax l.length cx ∧ v7 = .slice none 0 0 ∧ v8 = .int .i64 0 ∧ ∃ k : Nat, k ≤ l.length ∧ i = .int .i64 k ∧ AInv l bs nx rt now gc (.slice A1 bs.length c1) Ax w k W) (fun _ _ _ _ i _ => l.length - (intOf i).toNat)
    case atStart =>
      refine ⟨rfl, rfl, rfl, 0, Nat.zero_le _, rfl, Nat.zero_le _, HB.out, ⟨_, HCB.out, ⟨fun _ _ => trivial, OwnRow.none_ _ _ _ _ _⟩⟩, fun hp => ?_⟩
      obtain ⟨gx, cs, h1, h2, h3⟩ := HROW.out hp
      exact ⟨gx, cs, h1, h2, h3⟩
    case round =>
      obtain ⟨rfl, rfl, rfl, j, hj, rfl, hi⟩ := hrel
      have HI := Lib.hid hi
      clear hi HB HCB HROW HO
      by_cases hlt : j < l.length
      · obtain ⟨hfull, HB, ⟨vr, hcb, hrr⟩, hrow⟩ := HI.out
        obtain ⟨gx, cs, rfl, hgx, hro⟩ := hrow (by omega)
        obtain ⟨p, hp⟩ : ∃ p, p = advFold bs nx rt now (l.take j) := ⟨_, rfl⟩
        rw [← hp] at hfull hrr hro
        have hpl : p.1.length = j := by rw [hp]; unfold advFold; rw [advFold_n, List.length_take]; simp; omega
        have hel := get_mid (l := l) hpl hlt
        have hmem : l[j] ∈ l := List.getElem_mem hlt
        have htime := time_of_ok (ok_of_valid l [] HV.out _ hmem)
        obtain ⟨m, hm⟩ : ∃ m, m = l[j] := ⟨_, rfl⟩
        rw [← hm] at hel htime
        have QF := Lib.hid hfull; have QB := Lib.hid HB; have QC := Lib.hid hcb; have QR := Lib.hid hrr; have QX := Lib.hid hro; have QP := Lib.hid hp; have QL := Lib.hid hpl; have QE := Lib.hid hel; have QT := Lib.hid htime; have QM := Lib.hid hm; have QG := Lib.hid hgx
        have HJ := Lib.hid hj
        have i0 : (0 : Int) ≤ (j : Int) := by omega
        have i1 : (j : Int) < (l.length : Int) := by omega
        have HLT := Lib.hid hlt
        clear hfull HB hcb hrr hro hp hpl hel hmem htime hm hgx hrow hj
        go_wp2_with fail
        refine (advM_calls k A1 c1 bs nx rt TAR.out vr p.2 gc gx (j * 5) cs m now w wr QC.out QR.out (QX.out.mrow m QE.out) QB.out HGC.out QG.out HR1.out HC1.out QT.out.1 QT.out.2 HN.out.2 QF.out).mono ?_
        rintro e W3 ⟨rfl, vr3, hc3, hr3, hown, hm3, hf3⟩
        obtain ⟨q, hq⟩ : ∃ q, q = advM bs nx rt now m p.2 := ⟨_, rfl⟩
        rw [← hq] at hr3 hm3
        have hrow3 := RowIs.put (m' := q.1) QX.out.ent QE.out (by rw [hq]; exact advM_same _ _ _ _ _ _) hm3
        rw [set_mid QL.out HLT.out] at hrow3
        have hst : advFold bs nx rt now (l.take (j + 1)) = (p.1 ++ [q.1], q.2) := by rw [advFold_take _ _ _ _ _ _ HLT.out, ← QP.out, ← QM.out, hq]; rfl
        have hb3 : Below w.heap.size w W3 := Fr.below hf3 QB.out (Nat.le_refl _) (fun kk hk => by
          rcases hk with e | e | e
          · have := HGC.out; omega
          · have := QG.out; omega
          · exact (R39_cells QR.out e).1)
        obtain ⟨A3, c3, rfl⟩ := Kd.R_slice hr3
        have RR := Lib.hid hr3; have RC := Lib.hid hc3; have RX := Lib.hid hrow3; have RS := Lib.hid hst; have RB := Lib.hid hb3
        clear hr3 hc3 hown hm3 hf3 hrow3 hst hb3 hq
        go_wp2_with fail
        refine (full_calls gc _ _ _ _ W3 RC.out).mono ?_
        rintro e W4 ⟨rfl, rfl⟩
        cases hfl : decide (1024 < ((q.2.length : Nat) : Int))
        · have hlt := HLT.out
          have hlen : l.length ≤ 9223372036854775807 := by have := HL.out; omega
          go_wp2_with fail
          go_roundw
          case rel =>
            refine ⟨rfl, rfl, rfl, j + 1, HLT.out, by go_num, ?_, RB.out, ⟨_, RC.out, ?_⟩, fun _ => ⟨gx, cs.setIfInBounds (j * 5 + 4) (.int .i64 q.1.f4), rfl, QG.out, ?_⟩⟩
            · rw [RS.out]; have := of_decide_eq_false hfl; show q.2.length ≤ 1024; omega
            · rw [RS.out]; exact RR.out
            · rw [RS.out]; exact RX.out
          case measure => simp [intOf]; have := HLT.out; omega
        · go_wp2_with fail
          refine bodyPost_ret (results_tmp3 rfl _ _ _) rfl ?_
          have hle := advFold_le bs nx rt now l (j + 1)
          rw [RS.out] at hle
          have h1 := of_decide_eq_true hfl
          have e1 : advanceF l bs nx rt now chk = ([], [], 2) := by unfold advanceF; rw [if_pos H0.out, if_pos (by simp only at hle; omega)]
          obtain rfl : r1 = [] := by rw [E1.out, e1]
          obtain rfl : r2 = [] := by rw [E2.out, e1]
          obtain rfl : r3 = 2 := by rw [E3.out, e1]
          exact ⟨_, _, rfl, Kd.V_nil _ _ _ _ _, Kd.V_nil _ _ _ _ _, RB.out⟩
      · obtain ⟨hfull, HB, ⟨vr, hcb, hrr⟩, hrow⟩ := HI.out
        have hjl : j = l.length := by omega
        subst hjl
        rw [List.take_length] at hfull hrr hrow
        rw [List.drop_length, List.append_nil] at hrow
        have QF := Lib.hid hfull; have QB := Lib.hid HB; have QC := Lib.hid hcb; have QR := Lib.hid hrr; have QX := Lib.hid hrow
        have q1 := hcb.c1
        clear hfull HB hcb hrr hrow hj hlt HI
        go_wp2_with fail
        go_region_held3 (fun w' => w'.cell? ⟨gc, 1, none⟩ = some vr) (go_keep) (fail)
        go_wp2_with fail
        refine bodyPost_ret (results_tmp3 rfl _ _ _) rfl ?_
        have e1 : advanceF l bs nx rt now chk = ((advFold bs nx rt now l).1, (advFold bs nx rt now l).2, 0) := by unfold advanceF; rw [if_pos H0.out, if_neg (by have := QF.out; omega)]
        obtain rfl : r1 = (advFold bs nx rt now l).1 := by rw [E1.out, e1]
        obtain rfl : r2 = (advFold bs nx rt now l).2 := by rw [E2.out, e1]
        obtain rfl : r3 = 0 := by rw [E3.out, e1]
        have hn : (advFold bs nx rt now l).1.length = l.length := by unfold advFold; rw [advFold_n]; simp
        refine ⟨_, _, rfl, ?_, Kd.V_drew (Kd.R_V (Kd.R_mono (Kd.R_bound QR.out) (fun kk hk => hk.2.1))), below_drew QB.out⟩
        refine Kd.V_drew ?_
        rcases Nat.eq_zero_or_pos l.length with hz | hp
        · have hx : (advFold bs nx rt now l).1 = [] := List.eq_nil_of_length_eq_zero (by omega)
          rw [hx, hz]
          exact ⟨_, _, rfl, Nat.zero_le _, fun W' _ => ⟨rfl, by simp, fun h => absurd h (by simp)⟩⟩
        · obtain ⟨gx, cs, rfl, hgx, hro⟩ := QX.out hp
          have hV := RowIs.V (B := w.heap.size) (cap := cx) hro (by have := HL.out; omega) (by have := HCAP.out; omega) (ok := fun k_ => w.heap.size ≤ k_) hgx
          rw [hn] at hV
          exact hV
end Go.Proofs.Ytbfhohpbldadbaa.P
