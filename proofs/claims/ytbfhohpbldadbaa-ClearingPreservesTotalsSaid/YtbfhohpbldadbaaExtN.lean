import Derived.Test.YtbfhohpbldadbaaExtM
namespace Go.Proofs.Ytbfhohpbldadbaa.P
open Go Go.RowKit Go.Proofs.YtbfhohpbldadbaaW.PrintWords Go.Proofs.YtbfhohpbldadbaaW.PrintLast Go.Proofs.YtbfhohpbldadbaaW.PrintMore
attribute [local go_sem] Oper.semAt_some
set_option linter.unusedVariables false
set_option linter.unusedSimpArgs false
/-- The meter and the records behind cuts at the times of a list. -/
def cutAll (rt : Int → Int) (m : S33) (rs : List S39) (ys : List Int) : S33 × List S39 :=
  ys.foldl (fun p y => (⟨p.1.f0, p.1.f1, p.1.f2, p.1.f3, y⟩, p.2 ++ [recOf p.1 y (rt p.1.f4)])) (m, rs)
theorem cutAll_snoc (rt : Int → Int) (m : S33) (rs : List S39) (ys : List Int) (y : Int) :
    cutAll rt m rs (ys ++ [y]) = (⟨(cutAll rt m rs ys).1.f0, (cutAll rt m rs ys).1.f1, (cutAll rt m rs ys).1.f2, (cutAll rt m rs ys).1.f3, y⟩, (cutAll rt m rs ys).2 ++ [recOf (cutAll rt m rs ys).1 y (rt (cutAll rt m rs ys).1.f4)]) := by
  simp [cutAll, List.foldl_append]
theorem cutAll_len (rt : Int → Int) : ∀ (ys : List Int) (m : S33) (rs : List S39), (cutAll rt m rs ys).2.length = rs.length + ys.length
  | [], m, rs => rfl
  | y :: ys, m, rs => by
    have h := cutAll_len rt ys ⟨m.f0, m.f1, m.f2, m.f3, y⟩ (rs ++ [recOf m y (rt m.f4)])
    simp only [List.length_append, List.length_cons, List.length_nil] at h ⊢
    have e : cutAll rt m rs (y :: ys) = cutAll rt ⟨m.f0, m.f1, m.f2, m.f3, y⟩ (rs ++ [recOf m y (rt m.f4)]) ys := rfl
    rw [e, h]; omega
theorem cutAll_same (rt : Int → Int) : ∀ (ys : List Int) (m : S33) (rs : List S39), (cutAll rt m rs ys).1.f0 = m.f0 ∧ (cutAll rt m rs ys).1.f1 = m.f1 ∧ (cutAll rt m rs ys).1.f2 = m.f2 ∧ (cutAll rt m rs ys).1.f3 = m.f3
  | [], m, rs => ⟨rfl, rfl, rfl, rfl⟩
  | y :: ys, m, rs => cutAll_same rt ys ⟨m.f0, m.f1, m.f2, m.f3, y⟩ (rs ++ [recOf m y (rt m.f4)])
/-- Fr's blocks. -/
def Bad (gc gm : Nat) (vr : Value) (k : Nat) : Prop := k = gc ∨ k = gm ∨ some k = vr.ownBlock
/-- What a loop of 'advance' holds between two rounds. -/
structure IAdv (gc gm o : Nat) (vb vr0 : Value) (m : S33) (rs : List S39) (f4 : Int) (cs : Array Value) (W0 wb : World) (b3 b4 N : Nat) (W : World) (vr : Value) : Prop where
  c : CBlk W gc vb vr
  r : k39.R 39 W wb.heap.size (fun _ => True) vr rs
  own : vr.ownBlock = vr0.ownBlock ∨ ∃ b, vr.ownBlock = some b ∧ W0.heap.size ≤ b
  m : W.heap[gm]? = some (.cells (cs.setIfInBounds (o + 4) (.int .i64 f4)) 33 (0, 0))
  fr : Fr (Bad gc gm vr0) W0 W
  x3 : Bx W b3 93 (.pointer (some ⟨gc, 0, none⟩))
  x4 : Bx W b4 98 (.pointer (some ⟨gm, o, none⟩))
  low : Below wb.heap.size wb W
  nb : ∀ k, some k = vr.ownBlock → k < W0.heap.size ∨ N ≤ k
  bl : N ≤ W.heap.size
theorem R39_move {W W' : World} {B : Nat} {v : Value} {rs : List S39} (h : k39.R 39 W B (fun _ => True) v rs) (hs : ∀ k, some k = v.ownBlock → W'.heap[k]? = W.heap[k]?) : k39.R 39 W' B (fun _ => True) v rs :=
  Kd.R_mono (Kd.R_step (Kd.R_tight rfl h) (fun k hk _ => hs k hk)) (fun _ _ => trivial)
theorem R39_cells {W : World} {B : Nat} {v : Value} {rs : List S39} (h : k39.R 39 W B (fun _ => True) v rs) {k : Nat} (hk : some k = v.ownBlock) : B ≤ k ∧ ∃ cells, W.heap[k]? = some (.cells cells 39 (0, 0)) := by
  refine ⟨((Kd.R_bound h).1 k hk.symm).2.1, ?_⟩
  obtain ⟨inner, ho⟩ := Kd.R_own h
  exact own_typed ho k hk.symm
theorem IAdv.move {gc gm o : Nat} {vb vr0 : Value} {m : S33} {rs : List S39} {f4 : Int} {cs : Array Value} {W0 wb : World} {b3 b4 N : Nat} {W W' : World} {vr : Value} (h : IAdv gc gm o vb vr0 m rs f4 cs W0 wb b3 b4 N W vr)
    {bf : Nat} (hm : Move bf N W W') (hN : W0.heap.size ≤ N) (hbf : W0.heap.size ≤ bf) (hbN : bf < N) (hb : bf ≠ gc ∧ bf ≠ gm ∧ bf ≠ b3 ∧ bf ≠ b4) (hw : wb.heap.size ≤ W0.heap.size) : IAdv gc gm o vb vr0 m rs f4 cs W0 wb b3 b4 N W' vr := by
  have hlow : ∀ k, k < W0.heap.size → W'.heap[k]? = W.heap[k]? := fun k hk => by
    have hk' : k < W.heap.size := Nat.lt_of_lt_of_le hk h.fr.size
    rw [Array.getElem?_eq_getElem hk']
    exact hm.same k _ (Array.getElem?_eq_getElem hk') (by omega) (.inl (by omega))
  refine ⟨hm.same _ _ h.c (Ne.symm hb.1) (.inr rfl), R39_move h.r fun k hk => ?_, h.own, hm.same _ _ h.m (Ne.symm hb.2.1) (.inr rfl), ⟨below0_trans h.fr.low hm.low, fun k hk hn => (hlow k hk).trans (h.fr.same k hk hn)⟩,
    hm.same _ _ h.x3 (Ne.symm hb.2.2.1) (.inr rfl), hm.same _ _ h.x4 (Ne.symm hb.2.2.2) (.inr rfl), ?_, h.nb, Nat.le_trans h.bl hm.low.size⟩
  · obtain ⟨_, cells, hc⟩ := R39_cells h.r hk
    exact (hm.same k _ hc (fun e => by subst e; have := h.nb _ hk; omega) (.inr rfl)).trans hc.symm
  · exact ⟨hm.low.os.trans h.low.os, hm.low.tape.trans h.low.tape, hm.low.output.trans h.low.output, Nat.le_trans h.low.size hm.low.size, fun k hk => (hlow k (by omega)).trans (h.low.block k hk)⟩
/-- A cut, seen from the loop. -/
theorem IAdv.cut {gc gm o : Nat} {vb vr0 : Value} {m : S33} {rs rs' : List S39} {f4 f4' : Int} {cs : Array Value} {W0 wb : World} {b3 b4 N : Nat} {W W' : World} {vr : Value} {e : Ending} (h : IAdv gc gm o vb vr0 m rs f4 cs W0 wb b3 b4 N W vr)
    (hp : CutPost vb vr rs' gc gm ((cs.setIfInBounds (o + 4) (.int .i64 f4)).setIfInBounds (o + 4) (.int .i64 f4')) wb.heap.size W e W') (hgc : wb.heap.size ≤ gc) (hgm : wb.heap.size ≤ gm) :
    ∃ vr', IAdv gc gm o vb vr0 m rs' f4' cs W0 wb b3 b4 N W' vr' ∧ Fr (Bad gc gm vr) W W' := by
  obtain ⟨_, vr', hc, hr, hown, hm, hf⟩ := hp
  have hne3 : ¬ Bad gc gm vr b3 := by
    rintro (e | e | e)
    · subst e; exact absurd rfl (blk_ne h.x3 h.c (by decide))
    · subst e; exact absurd rfl (blk_ne h.x3 h.m (by decide))
    · exact Kd.R_ne h.r h.x3 (by decide) e
  have hne4 : ¬ Bad gc gm vr b4 := by
    rintro (e | e | e)
    · subst e; exact absurd rfl (blk_ne h.x4 h.c (by decide))
    · subst e; exact absurd rfl (blk_ne h.x4 h.m (by decide))
    · exact Kd.R_ne h.r h.x4 (by decide) e
  refine ⟨vr', ⟨hc, hr, ?_, ?_, ?_, hf.blk h.x3 hne3, hf.blk h.x4 hne4, ?_, ?_, Nat.le_trans h.bl hf.size⟩, hf⟩
  · rcases hown with e | ⟨b, e, hb⟩
    · rw [e]; exact h.own
    · exact .inr ⟨b, e, Nat.le_trans h.fr.size hb⟩
  · rw [hm, Array.setIfInBounds_setIfInBounds]
  · refine Fr.trans h.fr hf fun i hi hbad => ?_
    rcases hbad with e | e | e
    · exact .inl e
    · exact .inr (.inl e)
    · rcases h.own with h1 | ⟨b, h1, hb⟩
      · rw [h1] at e; exact .inr (.inr e)
      · rw [h1] at e; cases e; omega
  · refine Fr.below hf h.low (Nat.le_refl _) fun k hk => ?_
    rcases hk with e | e | e
    · omega
    · omega
    · exact (R39_cells h.r e).1
  · rcases hown with e | ⟨b, e, hb⟩
    · rw [e]; exact h.nb
    · rw [e]; intro k e2; cases e2; have := h.bl; exact .inr (by omega)
theorem IAdv.row {gc gm o : Nat} {vb vr0 : Value} {m m' : S33} {rs : List S39} {f4 : Int} {cs : Array Value} {W0 wb : World} {b3 b4 N : Nat} {W : World} {vr : Value} (h : IAdv gc gm o vb vr0 m rs f4 cs W0 wb b3 b4 N W vr)
    (hm : MRow W0 gm cs o m) (h0 : m'.f0 = m.f0) (h1 : m'.f1 = m.f1) (h2 : m'.f2 = m.f2) (h3 : m'.f3 = m.f3) (h4 : m'.f4 = f4) : MRow W gm (cs.setIfInBounds (o + 4) (.int .i64 f4)) o m' := by
  have hlt : o + 4 < cs.size := (Array.getElem?_eq_some_iff.1 hm.e4).1
  refine ⟨h.m, ?_, ?_, ?_, ?_, ?_⟩
  · rw [Array.getElem?_setIfInBounds_ne (by omega), hm.e0, h0]
  · rw [Array.getElem?_setIfInBounds_ne (by omega), hm.e1, h1]
  · rw [Array.getElem?_setIfInBounds_ne (by omega), hm.e2, h2]
  · rw [Array.getElem?_setIfInBounds_ne (by omega), hm.e3, h3]
  · rw [Array.getElem?_setIfInBounds_self_of_lt hlt, h4]
/-- Between two rounds of 'advance'. -/
def IGo (gc gm o : Nat) (vb vr0 : Value) (m : S33) (rs : List S39) (rt : Int → Int) (cs : Array Value) (W0 wb : World) (b3 b4 N : Nat) (pre : List Int) (W : World) : Prop :=
  ∃ vr, IAdv gc gm o vb vr0 m (cutAll rt m rs pre).2 (cutAll rt m rs pre).1.f4 cs W0 wb b3 b4 N W vr ∧ rs.length + pre.length ≤ 1024 ∧ 0 ≤ (cutAll rt m rs pre).1.f4 ∧ (cutAll rt m rs pre).1.f4 ≤ 1099511627776
def IOut (gc gm o : Nat) (vb vr0 : Value) (m : S33) (rs : List S39) (rt : Int → Int) (cs : Array Value) (W0 wb : World) (b3 b4 N : Nat) (pre : List Int) (W : World) : Prop :=
  ∃ vr, IAdv gc gm o vb vr0 m (cutAll rt m rs pre).2 (cutAll rt m rs pre).1.f4 cs W0 wb b3 b4 N W vr ∧ rs.length + pre.length = 1025
theorem IGo.holds {gc gm o : Nat} {vb vr0 : Value} {m : S33} {rs : List S39} {rt : Int → Int} {cs : Array Value} {W0 wb : World} {b3 b4 bf N : Nat} (hN : W0.heap.size ≤ N) (hbf : W0.heap.size ≤ bf) (hbN : bf < N) (hb : bf ≠ gc ∧ bf ≠ gm ∧ bf ≠ b3 ∧ bf ≠ b4) (hw : wb.heap.size ≤ W0.heap.size) :
    Holds bf N (IGo gc gm o vb vr0 m rs rt cs W0 wb b3 b4 N) := fun s A B ⟨v, h, r⟩ hm => ⟨v, h.move hm hN hbf hbN hb hw, r⟩
theorem IOut.holds {gc gm o : Nat} {vb vr0 : Value} {m : S33} {rs : List S39} {rt : Int → Int} {cs : Array Value} {W0 wb : World} {b3 b4 bf N : Nat} (hN : W0.heap.size ≤ N) (hbf : W0.heap.size ≤ bf) (hbN : bf < N) (hb : bf ≠ gc ∧ bf ≠ gm ∧ bf ≠ b3 ∧ bf ≠ b4) (hw : wb.heap.size ≤ W0.heap.size) :
    Holds bf N (IOut gc gm o vb vr0 m rs rt cs W0 wb b3 b4 N) := fun s A B ⟨v, h, r⟩ hm => ⟨v, h.move hm hN hbf hbN hb hw, r⟩
theorem set_same {cs : Array Value} {i : Nat} {v : Value} (h : cs[i]? = some v) : cs.setIfInBounds i v = cs := by
  obtain ⟨hlt, e⟩ := Array.getElem?_eq_some_iff.1 h
  refine Array.ext_getElem? fun j => ?_
  by_cases hj : j = i
  · subst hj; rw [Array.getElem?_setIfInBounds_self_of_lt hlt, h]
  · rw [Array.getElem?_setIfInBounds_ne (Ne.symm hj)]
theorem take_of_prefix {L pre : List Int} {n : Nat} (h : pre <+: L) (hn : pre.length = n) : L.take n = pre := by
  obtain ⟨t, rfl⟩ := h
  rw [← hn, List.take_left']
  rfl
/-- What a frame keeps of blocks without cells. -/
theorem keepsFrom_of {gc gm o : Nat} {vb vr0 : Value} {m : S33} {rs : List S39} {f4 : Int} {cs : Array Value} {W0 wb : World} {b3 b4 N : Nat} {W W' : World} {vr : Value} (h : IAdv gc gm o vb vr0 m rs f4 cs W0 wb b3 b4 N W vr) (hf : Fr (Bad gc gm vr) W W') (B : Nat) : KeepsFrom B W W' :=
  ⟨hf.size, fun k q _ hk hq => by
    refine hf.blk hk fun hbad => ?_
    rcases hbad with e | e | e
    · subst e; rw [show W.heap[k]? = _ from h.c] at hk; cases hk; cases hq
    · subst e; rw [h.m] at hk; cases hk; cases hq
    · obtain ⟨_, cells, hc⟩ := R39_cells h.r e
      rw [hc] at hk; cases hk; cases hq⟩
theorem keep93_of {gc gm o : Nat} {vb vr0 : Value} {m : S33} {rs rs' : List S39} {f4 f4' : Int} {cs : Array Value} {W0 wb : World} {b3 b4 N bc bf bt : Nat} {W W' : World} {vr vr' : Value} (h : IAdv gc gm o vb vr0 m rs f4 cs W0 wb b3 b4 N W vr) (h' : IAdv gc gm o vb vr0 m rs' f4' cs W0 wb b3 b4 N W' vr') (hf : Fr (Bad gc gm vr) W W')
    (hc : W0.heap.size ≤ bc ∧ bc < N) (hff : W0.heap.size ≤ bf ∧ bf < N) (ht : W0.heap.size ≤ bt ∧ bt < N) (hgc : gc < W0.heap.size) (hgm : gm < W0.heap.size) : Keep93 bc bf bt gc vb wb W W' := by
  have nb : ∀ k, W0.heap.size ≤ k → k < N → W'.heap[k]? = W.heap[k]? := fun k h0 h1 => hf.same k (Nat.lt_of_lt_of_le h1 h.bl) (by
    rintro (e | e | e)
    · omega
    · omega
    · have := h.nb _ e; omega)
  exact ⟨hf.size, nb bc hc.1 hc.2, nb bf hff.1 hff.2, nb bt ht.1 ht.2, fun r hr => ⟨_, h'.c⟩, fun _ => h'.low⟩
set_option maxHeartbeats 8000000 in
set_option maxRecDepth 100000 in
theorem advance_calls (k : Nat) (A1 : Option Addr) (c1 : Nat) (bs : List S110) (nx rt : Int → Int) (htar : Tar k bs nx rt) (vr : Value) (rs : List S39) (gc gm o : Nat) (cs : Array Value) (m : S33) (now : Int) (wb W : World)
    (hC : CBlk W gc (.slice A1 bs.length c1) vr) (hR : k39.R 39 W wb.heap.size (fun _ => True) vr rs) (hm : MRow W gm cs o m) (hb : Below wb.heap.size wb W) (hgc : wb.heap.size ≤ gc) (hgm : wb.heap.size ≤ gm) (hrb : Kd.C k110 wb A1 bs.length bs) (hc1 : bs.length ≤ c1)
    (hf0 : 0 ≤ m.f4) (hf1 : m.f4 ≤ 1099511627776) (hn1 : now ≤ 1099511627776) (L : List Int) (hL0 : flatB bs = true → L = []) (hL1 : flatB bs = false → Ch nx now m.f4 L) (hLr : ∀ y ∈ L, 0 ≤ y ∧ y ≤ 1099511627776) (hl : rs.length ≤ 1024) :
    Calls Try.prog 53 #[.pointer (some ⟨gc, 0, none⟩), .pointer (some ⟨gm, o, none⟩), .int .i64 now] W
      (CutPost (.slice A1 bs.length c1) vr (cutAll rt m rs (L.take (1025 - rs.length))).2 gc gm (cs.setIfInBounds (o + 4) (.int .i64 (cutAll rt m rs (L.take (1025 - rs.length))).1.f4)) wb.heap.size W) := by
  refine (callsIn_wide (n := 5)).1 ?_
  refine callsIn_of_wp_marks Try.func53 rfl trivial ?_ rfl
  simp only [Try.ntmps53, List.size_toArray, List.length_cons, List.length_nil, Nat.reduceAdd, Nat.reduceSub, Array.replicate_succ, Array.replicate_zero, List.push_toArray, List.append_toArray, List.nil_append, List.cons_append]
  have HC := Lib.hid hC; have HR := Lib.hid hR; have HM := Lib.hid hm; have HB := Lib.hid hb; have HGC := Lib.hid hgc; have HGM := Lib.hid hgm; have HRB := Lib.hid hrb; have HC1 := Lib.hid hc1; have HTAR := Lib.hid htar
  have HN := Lib.hid (And.intro hf0 (And.intro hf1 hn1)); have HL0 := Lib.hid hL0; have HL1 := Lib.hid hL1; have HLR := Lib.hid hLr; have HL := Lib.hid hl
  clear hC hR hm hb hgc hgm hrb hc1 hf0 hf1 hn1 hL0 hL1 hLr hl htar
  gi_wp2
  obtain ⟨w1, hw1⟩ : ∃ w1, w1 = (W.alloc (.cells #[.pointer (some ⟨gc, 0, none⟩)] 93)).alloc (.cells #[.pointer (some ⟨gm, o, none⟩)] 98) := ⟨_, rfl⟩
  rw [← hw1]
  have B1 := Lib.hid (show Below W.heap.size W w1 by rw [hw1]; exact al (below_one _ _) _)
  have X3 := Lib.hid (show Bx w1 W.heap.size 93 (.pointer (some ⟨gc, 0, none⟩)) by rw [hw1]; exact (Bx.new W 93 _).below (below_one _ _))
  have X4 := Lib.hid (show Bx w1 (W.heap.size + 1) 98 (.pointer (some ⟨gm, o, none⟩)) by rw [hw1]; have h := Bx.new (W.alloc (.cells #[.pointer (some ⟨gc, 0, none⟩)] 93)) 98 (.pointer (some ⟨gm, o, none⟩)); rwa [World.size_alloc] at h)
  have S1 := Lib.hid (show w1.heap.size = W.heap.size + 2 by rw [hw1]; simp)
  have M1 := Lib.hid (HM.out.below B1.out)
  clear hw1
  refine wpIn_wide.2 (wp_region_noPanic ?_)
  refine start_ (n := 7) (S := fun w' => w'.cell? ⟨W.heap.size, 0, none⟩ = some (.pointer (some ⟨gc, 0, none⟩)) ∧ w'.cell? ⟨W.heap.size + 1, 0, none⟩ = some (.pointer (some ⟨gm, o, none⟩)) ∧ w'.cell? ⟨gm, o + 4, none⟩ = some (.int .i64 m.f4)) (ds := []) #[false, false, false, false, false, false, false] (by kernel_rfl) rfl rfl ⟨X3.out.c0, X4.out.c0, M1.out.c4⟩ (fun hHeld => ?_)
  refine pure_ (i := 5) (N := some 12) (v := ?_) (a' := ?_) #[false, false, false, false, false, true, false] rfl rfl (by kernel_rfl) (fun _ _ _ h => h) (Or.inl ⟨by rfl, ?_⟩) ?_ ?_
  rotate_left
  · intro w'
    go_simp
    with_reducible rfl
  rotate_left
  · simp only [Act.put, List.setIfInBounds_toArray, List.set_cons_zero, List.set_cons_succ, i64_w, i32_w]
    rfl
  refine take_ (i := 0) (N := some 7) (v := ?_) (a' := ?_) #[true, false, false, false, false, true, false] rfl rfl (by kernel_rfl) (fun _ _ _ h => h) (Or.inl ⟨by rfl, ?_⟩) hHeld ?_ ?_
  rotate_left
  · rintro w' ⟨s0, s1, s2⟩
    go_simp
    with_reducible rfl
  rotate_left
  · simp only [Act.put, List.setIfInBounds_toArray, List.set_cons_zero, List.set_cons_succ, i64_w, i32_w]
    rfl
  refine take_ (i := 1) (N := some 8) (v := ?_) (a' := ?_) #[true, true, false, false, false, true, false] rfl rfl (by kernel_rfl) (fun _ _ _ h => h) (Or.inl ⟨by rfl, ?_⟩) hHeld ?_ ?_
  rotate_left
  · rintro w' ⟨s0, s1, s2⟩
    go_simp
    with_reducible rfl
  rotate_left
  · simp only [Act.put, List.setIfInBounds_toArray, List.set_cons_zero, List.set_cons_succ, i64_w, i32_w]
    rfl
  refine pure_ (i := 2) (N := some 9) (v := ?_) (a' := ?_) #[true, true, true, false, false, true, false] rfl rfl (by kernel_rfl) (fun _ _ _ h => h) (Or.inl ⟨by rfl, ?_⟩) ?_ ?_
  rotate_left
  · intro w'
    go_simp
    with_reducible rfl
  rotate_left
  · simp only [Act.put, List.setIfInBounds_toArray, List.set_cons_zero, List.set_cons_succ, i64_w, i32_w]
    rfl
  refine pure_ (i := 3) (N := some 10) (v := ?_) (a' := ?_) #[true, true, true, true, false, true, false] rfl rfl (by kernel_rfl) (fun _ _ _ h => h) (Or.inl ⟨by rfl, ?_⟩) ?_ ?_
  rotate_left
  · intro w'
    go_simp
    with_reducible rfl
  rotate_left
  · simp only [Act.put, List.setIfInBounds_toArray, List.set_cons_zero, List.set_cons_succ, i64_w, i32_w]
    rfl
  refine take_ (i := 4) (N := some 11) (v := ?_) (a' := ?_) #[true, true, true, true, true, true, false] rfl rfl (by kernel_rfl) (fun _ _ _ h => h) (Or.inl ⟨by rfl, ?_⟩) hHeld ?_ ?_
  rotate_left
  · rintro w' ⟨s0, s1, s2⟩
    go_simp
    with_reducible rfl
  rotate_left
  · simp only [Act.put, List.setIfInBounds_toArray, List.set_cons_zero, List.set_cons_succ, i64_w, i32_w]
    rfl
  refine one_ (i := 6) (N := some 13) #[true, true, true, true, true, true, true] rfl rfl (by kernel_rfl) (by decide) (fun K hK => ?_)
  refine goes_ Try.func82 (by kernel_rfl) rfl #[.pointer (some ⟨gc, 0, none⟩), .int .i64 m.f4, .int .i64 now] (by rfl) rfl rfl (by simp only [List.map_toArray, List.map_cons, List.map_nil]; rfl) ?_
  with_reducible refine (changes_calls gc m.f4 now _).mono ?_
  rintro e w2 ⟨rfl, hw2⟩
  refine ⟨_, rfl, ?_⟩
  have B2 := Lib.hid (show Below w1.heap.size w1 w2 by rw [hw2]; exact al (al (al (below_drew (Below.refl _ _)) _) _) _)
  have XC := Lib.hid (show Bx w2 w1.heap.size 93 (.pointer (some ⟨gc, 0, none⟩)) by rw [hw2]; exact ((Bx.new w1.drew 93 _).below (below_one _ _)).below (below_one _ _))
  have XF := Lib.hid (show Bx w2 (w1.heap.size + 1) 3 (.int .i64 m.f4) by rw [hw2]; have h := (Bx.new (w1.drew.alloc (.cells #[.pointer (some ⟨gc, 0, none⟩)] 93)) 3 (.int .i64 m.f4)).below (below_one _ (.cells #[.int .i64 now] 3)); rwa [World.size_alloc] at h)
  have XT := Lib.hid (show Bx w2 (w1.heap.size + 2) 3 (.int .i64 now) by rw [hw2]; have h := Bx.new ((w1.drew.alloc (.cells #[.pointer (some ⟨gc, 0, none⟩)] 93)).alloc (.cells #[.int .i64 m.f4] 3)) 3 (.int .i64 now); rwa [World.size_alloc, World.size_alloc] at h)
  have S2 := Lib.hid (show w2.heap.size = w1.heap.size + 3 by rw [hw2]; simp)
  have X3 := Lib.hid (X3.out.below B2.out); have X4 := Lib.hid (X4.out.below B2.out); have M2 := Lib.hid (M1.out.below B2.out)
  clear hw2
  refine hK.out _ _ ⟨X3.out.c0, X4.out.c0, M2.out.c4⟩ (fun hHeld => ?_)
  clear hK K
  refine norm_ (a' := ?_) ?_ ?_
  rotate_left
  · show Act.put _ (some 13) _ = _
    simp only [Act.put, List.setIfInBounds_toArray, List.set_cons_zero, List.set_cons_succ, i64_w, i32_w]
    rfl
  refine done_ (by kernel_rfl) ?_

  refine NoPanic.normal ?_
  gi_wp2
  have hsz : w1.heap.size = W.heap.size + 2 := S1.out
  have hsz2 : w2.heap.size = W.heap.size + 5 := by have := S2.out; omega
  have hgc0 : gc < W.heap.size := heap_lt HC.out
  have hgm0 : gm < W.heap.size := heap_lt HM.out.blk
  have BW := Lib.hid (bb B1.out B2.out)
  have hwb := HB.out.size
  have HS := Lib.hid (And.intro hsz (And.intro hsz2 (And.intro hgc0 (And.intro hgm0 hwb))))
  have HI0 : IAdv gc gm o (.slice A1 bs.length c1) vr m rs m.f4 cs W wb W.heap.size (W.heap.size + 1) w2.heap.size w2 vr :=
    ⟨HC.out.below BW.out, Kd.R_below HR.out BW.out, .inl rfl, by rw [set_same HM.out.e4]; exact (HM.out.below BW.out).blk, Fr.of_below BW.out _, X3.out, X4.out, bb HB.out BW.out, fun k hk => .inl (by obtain ⟨_, cells, hcc⟩ := R39_cells HR.out hk; exact heap_lt hcc), Nat.le_refl _⟩
  refine loop93 (p0 := 14) (lb := #[.pointer (some ⟨w1.heap.size, 0, none⟩), .pointer (some ⟨w1.heap.size + 1, 0, none⟩), .pointer (some ⟨w1.heap.size + 2, 0, none⟩)]) (by omega) rfl enters93 (bf := w1.heap.size + 1) (by omega)
    (changes1_seq (5 - 1) (by omega) w1.heap.size (w1.heap.size + 1) (w1.heap.size + 2) gc ⟨by omega, by omega, by omega⟩ A1 c1 bs k nx rt HTAR.out m.f4 now HN.out.1 HN.out.2.1 HN.out.2.2 L HL0.out HL1.out w2 vr XC.out XF.out XT.out (HC.out.below BW.out) wb (bb HB.out BW.out) (by omega) HRB.out HC1.out)
    (fun h h' => h.trans h') ?kb (Below.refl _ _)
    (IGo gc gm o (.slice A1 bs.length c1) vr m rs rt cs W wb W.heap.size (W.heap.size + 1) w2.heap.size) (IOut gc gm o (.slice A1 bs.length c1) vr m rs rt cs W wb W.heap.size (W.heap.size + 1) w2.heap.size)
    (IGo.holds (by omega) (by omega) (by omega) ⟨by omega, by omega, by omega, by omega⟩ hwb) (IOut.holds (by omega) (by omega) (by omega) ⟨by omega, by omega, by omega, by omega⟩ hwb)
    ⟨vr, HI0, by have := HL.out; simp; omega, HN.out.1, HN.out.2.1⟩
    (fun x => { tmps := #[.pointer (some ⟨gc, 0, none⟩), .pointer (some ⟨gm, o, none⟩), .int .i64 now, .pointer (some ⟨W.heap.size, 0, none⟩), .pointer (some ⟨W.heap.size + 1, 0, none⟩), undef, .int .i64 x, .pointer (some ⟨gc, 0, none⟩), .pointer (some ⟨gm, o, none⟩), .pointer (some ⟨gm, o, none⟩), .pointer (some ⟨gm, o + 4, none⟩), .int .i64 m.f4, .int .i64 now, .func (.func 93) #[] #[.pointer (some ⟨w1.heap.size, 0, none⟩), .pointer (some ⟨w1.heap.size + 1, 0, none⟩), .pointer (some ⟨w1.heap.size + 2, 0, none⟩)], .int .i64 x, undef, undef, undef, undef, undef, undef], defers := [] }) ?assign ?body ?done ?stop
  case kb =>
    intro Wx l oo oo' hl hlo hcell
    have hk : ∀ k, k < w2.heap.size → (Wx.putObj l oo').heap[k]? = Wx.heap[k]? := fun k hk => World.putObj_heap_other (by omega)
    refine ⟨by simp, hk _ (by omega), hk _ (by omega), hk _ (by omega), fun r hr => ⟨r, (hk _ (by omega)).trans hr⟩, fun hr => ?_⟩
    exact ⟨hr.os, hr.tape, hr.output, by simpa using hr.size, fun k hlt => (hk k (by omega)).trans (hr.block k hlt)⟩
  case assign =>
    intro l x W' K hK
    clear hsz hsz2 HI0
    gi_wp2
    exact hK
  case body =>
    rintro l pre x W' ⟨vr', h, hlen, hp0, hp1⟩ hG
    clear hsz hsz2 HI0 hgc0 hgm0 hwb
    obtain ⟨q, hq⟩ : ∃ q, q = cutAll rt m rs pre := ⟨_, rfl⟩
    rw [← hq] at h hp0 hp1
    have hql : q.2.length = rs.length + pre.length := by rw [hq]; exact cutAll_len _ _ _ _
    have HQ := Lib.hid hq; have HH := Lib.hid h; have HLE := Lib.hid hlen; have HQL := Lib.hid hql; have HP := Lib.hid (And.intro hp0 hp1); have HG := Lib.hid hG
    have hsm : q.1.f0 = m.f0 ∧ q.1.f1 = m.f1 ∧ q.1.f2 = m.f2 ∧ q.1.f3 = m.f3 := by rw [hq]; exact cutAll_same _ _ _ _
    have HSM := Lib.hid hsm
    clear hq hlen hql hp0 hp1 hG hsm
    have y3 := h.x3.c0; have y4 := h.x4.c0
    clear h
    gi_wp2
    refine ⟨trivial, (CallsIn.inRound l (callsIn_wide.2 (cut_calls k A1 c1 bs vr' q.2 gc gm o (cs.setIfInBounds (o + 4) (.int .i64 q.1.f4)) q.1 x (rt q.1.f4) 0 wb.heap.size W' HH.out.c HH.out.r HH.out.low.size (HH.out.row HM.out HSM.out.1 HSM.out.2.1 HSM.out.2.2.1 HSM.out.2.2.2 rfl) (Kd.C_below HRB.out HH.out.low) HC1.out (HTAR.out.rate _ HP.out.1 HP.out.2) (by have := HQL.out; have := HLE.out; omega)))).mono ?_⟩
    rintro e W3 hp
    obtain ⟨vr3, h3, hf3⟩ := HH.out.cut hp HGC.out HGM.out
    obtain ⟨rfl, _⟩ := hp
    obtain ⟨g3, cap3, rfl, _, _, _⟩ := Kd.R_form h3.r (by simp)
    have hl3 : (q.2 ++ [recOf q.1 x (rt q.1.f4)]).length = q.2.length + 1 := by simp
    rw [hl3] at h3
    have H3 := Lib.hid h3; have HF3 := Lib.hid hf3
    clear y3 y4
    have y3 := h3.x3.c0
    clear h3 hf3 hl3
    gi_wp2
    refine ⟨trivial, (CallsIn.inRound l (callsIn_wide.2 (full_calls gc _ _ _ _ W3 H3.out.c))).mono ?_⟩
    rintro e W4 ⟨rfl, rfl⟩
    have KF := Lib.hid (keepsFrom_of HH.out HF3.out w2.heap.size)
    have hx0 := (HLR.out x (HG.out.subset (by simp)))
    have HX := Lib.hid hx0
    clear hx0
    cases hfull : decide (1024 < ((q.2.length + 1 : Nat) : Int))
    · gi_wp2
      have hsn : cutAll rt m rs (pre ++ [x]) = (⟨q.1.f0, q.1.f1, q.1.f2, q.1.f3, x⟩, q.2 ++ [recOf q.1 x (rt q.1.f4)]) := by rw [cutAll_snoc, ← HQ.out]
      obtain ⟨e1, e2, e3, e4, e5⟩ := HS.out
      refine ⟨KF.out, keep93_of HH.out H3.out HF3.out ⟨by omega, by omega⟩ ⟨by omega, by omega⟩ ⟨by omega, by omega⟩ e3 e4, _, by rw [hsn]; exact H3.out, ?_, by rw [hsn]; exact HX.out.1, by rw [hsn]; exact HX.out.2⟩
      have h1 := of_decide_eq_false hfull
      have h2 := HQL.out
      simp only [List.length_append, List.length_cons, List.length_nil]
      omega
    · gi_wp2
      have hsn : cutAll rt m rs (pre ++ [x]) = (⟨q.1.f0, q.1.f1, q.1.f2, q.1.f3, x⟩, q.2 ++ [recOf q.1 x (rt q.1.f4)]) := by rw [cutAll_snoc, ← HQ.out]
      refine ⟨KF.out, _, by rw [hsn]; exact H3.out, ?_⟩
      have h1 := of_decide_eq_true hfull
      have h2 := HQL.out
      have h3 := HLE.out
      simp only [List.length_append, List.length_cons, List.length_nil]
      omega
  case done =>
    rintro D xs W' hD rfl ⟨vr', h, hlen, hp0, hp1⟩ hK
    have h' := h.move (bf := w1.heap.size + 1) (Move.put (.deferred none) hK hD rfl) (by omega) (by omega) (by omega) ⟨by omega, by omega, by omega, by omega⟩ hwb
    have htk : xs.take (1025 - rs.length) = xs := List.take_of_length_le (by omega)
    rw [htk]
    clear hsz hsz2 HI0
    gi_wp2
    refine ⟨by simp, .inl ⟨_, _, rfl, run_takeDeferred hK, ?_⟩⟩
    exact ⟨_, results_none rfl _ _ _, rfl, _, h'.c, h'.r, h'.own, h'.m, h'.fr⟩
  case stop =>
    rintro D pre W' hD hG ⟨vr', h, hlen⟩ hK
    have h' := h.move (bf := w1.heap.size + 1) (Move.put (.deferred none) hK hD rfl) (by omega) (by omega) (by omega) ⟨by omega, by omega, by omega, by omega⟩ hwb
    have htk : L.take (1025 - rs.length) = pre := take_of_prefix hG (by omega)
    rw [htk]
    clear hsz hsz2 HI0
    gi_wp2
    refine ⟨by simp, .inl ⟨_, _, rfl, run_takeDeferred hK, ?_⟩⟩
    exact ⟨_, results_none rfl _ _ _, rfl, _, h'.c, h'.r, h'.own, h'.m, h'.fr⟩
end Go.Proofs.Ytbfhohpbldadbaa.P
