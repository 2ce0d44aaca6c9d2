import Derived.Test.YtbfhohpbldadbaaExtL
namespace Go.Proofs.Ytbfhohpbldadbaa.P
open Go Go.RowKit Go.Proofs.YtbfhohpbldadbaaW.PrintWords Go.Proofs.YtbfhohpbldadbaaW.PrintLast Go.Proofs.YtbfhohpbldadbaaW.PrintMore
attribute [local go_sem] Oper.semAt_some
set_option linter.unusedVariables false
set_option linter.unusedSimpArgs false
theorem enters93 : Enters 93 := fun _ _ => by kernel_rfl
set_option maxHeartbeats 1000000 in
set_option maxRecDepth 100000 in
theorem changes_calls (gc : Nat) (f t : Int) (W : World) :
    Calls Try.prog 82 #[.pointer (some ⟨gc, 0, none⟩), .int .i64 f, .int .i64 t] W fun e W' =>
      e = .returned (.func (.func 93) #[] #[.pointer (some ⟨W.heap.size, 0, none⟩), .pointer (some ⟨W.heap.size + 1, 0, none⟩), .pointer (some ⟨W.heap.size + 2, 0, none⟩)]) ∧
      W' = ((W.alloc (.cells #[.pointer (some ⟨gc, 0, none⟩)] 93)).alloc (.cells #[.int .i64 f] 3)).alloc (.cells #[.int .i64 t] 3) := by
  have hmf : ∀ (fn : Fn) (first cap : Array Value) (w : World), (Instr.makeFunc fn first cap).run Try.prog w = .ok (.func fn first cap) w := fun _ _ _ _ => rfl
  go_enter Try.func82, Try.ntmps82
  go_wp2_with fail
  go_ret
  exact ⟨rfl, rfl⟩
/-- The changes after cur, up to lim: nx tells the next one. -/
def Ch (nx : Int → Int) (lim : Int) : Int → List Int → Prop
  | cur, [] => lim < nx cur
  | cur, y :: L => y = nx cur ∧ y ≤ lim ∧ Ch nx lim y L
/-- What a round that goes on keeps. -/
structure Keep93 (bc bf bt gc : Nat) (vb : Value) (wb W W' : World) : Prop where
  size : W.heap.size ≤ W'.heap.size
  c : W'.heap[bc]? = W.heap[bc]?
  f : W'.heap[bf]? = W.heap[bf]?
  t : W'.heap[bt]? = W.heap[bt]?
  blk : ∀ r, CBlk W gc vb r → ∃ r', CBlk W' gc vb r'
  row : Below wb.heap.size wb W → Below wb.heap.size wb W'
theorem Keep93.trans {bc bf bt gc : Nat} {vb : Value} {wb : World} {A B C : World} (h : Keep93 bc bf bt gc vb wb A B) (k : Keep93 bc bf bt gc vb wb B C) : Keep93 bc bf bt gc vb wb A C :=
  ⟨Nat.le_trans h.size k.size, k.c.trans h.c, k.f.trans h.f, k.t.trans h.t, fun r hr => by obtain ⟨r1, h1⟩ := h.blk r hr; exact k.blk r1 h1, fun hr => k.row (h.row hr)⟩
/-- The number in the cell of block bf. -/
def curOf (bf : Nat) (W : World) : Int := match W.cell? ⟨bf, 0, none⟩ with
  | some (.int _ x) => x
  | _ => 0
theorem curOf_eq {bf t : Nat} {W : World} {x : Int} (h : Bx W bf t (.int .i64 x)) : curOf bf W = x := by
  unfold curOf; rw [h.c0]
/-- What holds between two rounds of the iterator. -/
def Inv93 (bc bf bt gc : Nat) (wb : World) (A1 : Option Addr) (c1 : Nat) (bs : List S110) (nx : Int → Int) (t : Int) (L : List Int) (J : List Int → World → Prop) (W : World) : Prop :=
  ∃ (pre rest : List Int) (cur : Int) (r : Value), L = pre ++ rest ∧ Ch nx t cur rest ∧ 0 ≤ cur ∧ cur ≤ 1099511627776 ∧ Bx W bf 3 (.int .i64 cur) ∧ Bx W bc 93 (.pointer (some ⟨gc, 0, none⟩)) ∧ Bx W bt 3 (.int .i64 t) ∧
    CBlk W gc (.slice A1 bs.length c1) r ∧ Below wb.heap.size wb W ∧ J pre W
/-- What the walk of the iterator asks of the tariff. -/
structure Tar (k : Nat) (bs : List S110) (nx rt : Int → Int) : Prop where
  pos : 0 < bs.length
  rate : ∀ t, 0 ≤ t → t ≤ 1099511627776 → tariff_Rate.f k bs t = some (rt t, 0)
  chg : flatB bs = false → ∀ t, 0 ≤ t → t ≤ 1099511627776 → tariff_Change.f k bs t = some (nx t, true, 0)
  up : flatB bs = false → ∀ t, 0 ≤ t → t ≤ 1099511627776 → t < nx t
set_option maxHeartbeats 8000000 in
set_option maxRecDepth 100000 in
theorem changes1_seq (n : Nat) (hn : 1 ≤ n) (bc bf bt gc : Nat) (hne : bf ≠ bc ∧ bf ≠ bt ∧ bf ≠ gc) (A1 : Option Addr) (c1 : Nat) (bs : List S110) (k : Nat) (nx rt : Int → Int) (htar : Tar k bs nx rt) (f t : Int) (hf0 : 0 ≤ f) (hf1 : f ≤ 1099511627776) (ht1 : t ≤ 1099511627776)
    (L : List Int) (hL0 : flatB bs = true → L = []) (hL1 : flatB bs = false → Ch nx t f L) (w : World) (r : Value)
    (hc : Bx w bc 93 (.pointer (some ⟨gc, 0, none⟩))) (hf : Bx w bf 3 (.int .i64 f)) (ht : Bx w bt 3 (.int .i64 t)) (hg : CBlk w gc (.slice A1 bs.length c1) r) (wb : World) (hwb : Below wb.heap.size wb w) (hwf : wb.heap.size ≤ bf) (hrb : Kd.C k110 wb A1 bs.length bs) (hc1 : bs.length ≤ c1) :
    Seq93 n bf #[.pointer (some ⟨bc, 0, none⟩), .pointer (some ⟨bf, 0, none⟩), .pointer (some ⟨bt, 0, none⟩)] (Keep93 bc bf bt gc (.slice A1 bs.length c1) wb) (fun pre => pre <+: L) (fun xs => xs = L) w := by
  intro l J Jx W hW hJ hJx hY h0
  refine callsIn_of_wp Try.func93 rfl trivial ?_ rfl
  simp only [Try.ntmps93, List.size_toArray, List.length_cons, List.length_nil, Nat.reduceAdd, Nat.reduceSub, Array.replicate_succ, Array.replicate_zero, List.push_toArray, List.append_toArray, List.nil_append, List.cons_append]
  have q1 := (hc.below hW).c0
  gi_wp2
  refine ⟨trivial, (callsIn_wide.2 (flat_calls gc r A1 c1 bs W (hg.below hW) (Kd.C_below hrb (bb hwb hW)) htar.pos)).mono ?_⟩
  rintro e w1 ⟨rfl, hb⟩
  have hfr := Lib.hid (Fr.of_below hb (fun k => k = bf))
  have HC := Lib.hid ((hc.below hW).below hb); have HF := Lib.hid ((hf.below hW).below hb); have HT := Lib.hid ((ht.below hW).below hb); have HG := Lib.hid ((hg.below hW).below hb)
  have HR := Lib.hid (bb (bb hwb hW) hb); have HRB := Lib.hid hrb; have HWF := Lib.hid hwf; have HJ := Lib.hid (hJ [] W w1 h0 hfr.out)
  have hJ' := Lib.hid hJ; have hJx' := Lib.hid hJx; have hY' := Lib.hid hY; have HL0 := Lib.hid hL0; have HL1 := Lib.hid hL1
  have HTAR := Lib.hid htar; have HNE := Lib.hid hne; have HC1 := Lib.hid hc1; have HB := Lib.hid (And.intro hf0 (And.intro hf1 ht1))
  clear hc hf ht hg hwb hwf hrb hW h0 hb q1 hfr hJ hJx hY hL0 hL1 htar hne hc1 hf0 hf1 ht1
  cases hfl : flatB bs
  · gi_wp2
    gi_loopw [5, 6, 7] (fun _ _ _ wr => Inv93 bc bf bt gc wb A1 c1 bs nx t L J wr) (fun _ _ _ wr => (1099511627776 - curOf bf wr).toNat)
    case atStart => exact ⟨[], L, f, r, rfl, HL1.out hfl, HB.out.1, HB.out.2.1, HF.out, HC.out, HT.out, HG.out, HR.out, HJ.out⟩
    case round =>
      obtain ⟨pre, rest, cur, r1, hx, hch, h0, h1, hf, hc, ht, hg, hr, hj⟩ := hrel
      have QF := Lib.hid hf; have QF0 := Lib.hid hf; have QC := Lib.hid hc; have QT := Lib.hid ht; have QG := Lib.hid hg; have QR := Lib.hid hr; have QJ := Lib.hid hj; have QX := Lib.hid hx; have QH := Lib.hid hch; have Q0 := Lib.hid h0; have Q1 := Lib.hid h1
      have QN := Lib.hid (HTAR.out.up hfl cur h0 h1); have QCH := Lib.hid (HTAR.out.chg hfl cur h0 h1); have HFL := Lib.hid hfl
      clear hf hc ht hg hr hj hx hch h0 h1 hfl HC HF HT HG HR HJ HL0 HL1
      gi_wp2
      refine wpIn_wide.2 ?_
      refine start_ (n := 13) (S := fun w' => w'.cell? ⟨bc, 0, none⟩ = some (.pointer (some ⟨gc, 0, none⟩)) ∧ w'.cell? ⟨gc, 0, none⟩ = some (.slice A1 bs.length c1) ∧ w'.cell? ⟨bf, 0, none⟩ = some (.int .i64 cur)) (ds := []) #[false, false, false, false, false, false, false, false, false, false, false, false, false] (by kernel_rfl) rfl rfl ⟨QC.out.c0, QG.out.c0, QF.out.c0⟩ (fun hHeld => ?_)
      refine take_ (i := 0) (N := some 11) (v := ?_) (a' := ?_) #[true, false, false, false, false, false, false, false, false, false, false, false, false] rfl rfl (by kernel_rfl) (fun _ _ _ h => h) (Or.inl ⟨by rfl, ?_⟩) hHeld ?_ ?_
      rotate_left
      · rintro w' ⟨s0, s1, s2⟩
        go_simp
        with_reducible rfl
      rotate_left
      · simp only [Act.put, List.setIfInBounds_toArray, List.set_cons_zero, List.set_cons_succ, i64_w, i32_w]
        rfl
      refine pure_ (i := 1) (N := some 12) (v := ?_) (a' := ?_) #[true, true, false, false, false, false, false, false, false, false, false, false, false] rfl rfl (by kernel_rfl) (fun _ _ _ h => h) (Or.inl ⟨by rfl, ?_⟩) ?_ ?_
      rotate_left
      · intro w'
        go_simp
        with_reducible rfl
      rotate_left
      · simp only [Act.put, List.setIfInBounds_toArray, List.set_cons_zero, List.set_cons_succ, i64_w, i32_w]
        rfl
      refine pure_ (i := 2) (N := some 13) (v := ?_) (a' := ?_) #[true, true, true, false, false, false, false, false, false, false, false, false, false] rfl rfl (by kernel_rfl) (fun _ _ _ h => h) (Or.inl ⟨by rfl, ?_⟩) ?_ ?_
      rotate_left
      · intro w'
        go_simp
        with_reducible rfl
      rotate_left
      · simp only [Act.put, List.setIfInBounds_toArray, List.set_cons_zero, List.set_cons_succ, i64_w, i32_w]
        rfl
      refine take_ (i := 3) (N := some 14) (v := ?_) (a' := ?_) #[true, true, true, true, false, false, false, false, false, false, false, false, false] rfl rfl (by kernel_rfl) (fun _ _ _ h => h) (Or.inl ⟨by rfl, ?_⟩) hHeld ?_ ?_
      rotate_left
      · rintro w' ⟨s0, s1, s2⟩
        go_simp
        with_reducible rfl
      rotate_left
      · simp only [Act.put, List.setIfInBounds_toArray, List.set_cons_zero, List.set_cons_succ, i64_w, i32_w]
        rfl
      refine take_ (i := 4) (N := some 15) (v := ?_) (a' := ?_) #[true, true, true, true, true, false, false, false, false, false, false, false, false] rfl rfl (by kernel_rfl) (fun _ _ _ h => h) (Or.inl ⟨by rfl, ?_⟩) hHeld ?_ ?_
      rotate_left
      · rintro w' ⟨s0, s1, s2⟩
        go_simp
        with_reducible rfl
      rotate_left
      · simp only [Act.put, List.setIfInBounds_toArray, List.set_cons_zero, List.set_cons_succ, i64_w, i32_w]
        rfl
      refine one_ (i := 5) (N := some 16) #[true, true, true, true, true, true, false, false, false, false, false, false, false] rfl rfl (by kernel_rfl) (by decide) (fun K hK => ?_)
      refine goes_ Try.func32 (by kernel_rfl) rfl #[.agg #[.slice A1 bs.length c1], .int .i64 cur] (by rfl) rfl rfl (by simp only [List.map_toArray, List.map_cons, List.map_nil]; rfl) ?_
      with_reducible refine (tariff_Change.calls k A1 c1 bs cur (nx cur) true 0 _ (Kd.C_drew (Kd.C_below HRB.out QR.out)) HC1.out QCH.out).mono ?_
      rintro e w2 ⟨rfl, hb⟩
      refine ⟨_, rfl, ?_⟩
      replace hb : Below wr.heap.size wr w2 := bb (below_drew (Below.refl _ _)) hb
      have QF := Lib.hid (QF.out.below hb); have QC := Lib.hid (QC.out.below hb); have QT := Lib.hid (QT.out.below hb); have QG := Lib.hid (QG.out.below hb); have QR := Lib.hid (bb QR.out hb)
      have QJ := Lib.hid (hJ'.out _ _ _ QJ.out (Fr.of_below hb _)); have QS := Lib.hid hb.size
      clear hb
      refine hK.out _ _ ⟨QC.out.c0, QG.out.c0, QF.out.c0⟩ (fun hHeld => ?_)
      clear hK K
      refine norm_ (a' := ?_) ?_ ?_
      rotate_left
      · show Act.put _ (some 16) _ = _
        simp only [Act.put, List.setIfInBounds_toArray, List.set_cons_zero, List.set_cons_succ, i64_w, i32_w]
        rfl
      refine pure_ (i := 6) (N := some 10) (v := ?_) (a' := ?_) #[true, true, true, true, true, true, true, false, false, false, false, false, false] rfl rfl (by kernel_rfl) (fun _ _ _ h => h) (Or.inl ⟨by rfl, ?_⟩) ?_ ?_
      rotate_left
      · intro w'
        go_simp
        with_reducible rfl
      rotate_left
      · simp only [Act.put, List.setIfInBounds_toArray, List.set_cons_zero, List.set_cons_succ, i64_w, i32_w]
        rfl
      refine pure_ (i := 7) (N := some 17) (v := ?_) (a' := ?_) #[true, true, true, true, true, true, true, true, false, false, false, false, false] rfl rfl (by kernel_rfl) (fun _ _ _ h => h) (Or.inl ⟨by rfl, ?_⟩) ?_ ?_
      rotate_left
      · intro w'
        go_simp
        with_reducible rfl
      rotate_left
      · simp only [Act.put, List.setIfInBounds_toArray, List.set_cons_zero, List.set_cons_succ, i64_w, i32_w]
        rfl
      refine pure_ (i := 8) (N := some 18) (v := ?_) (a' := ?_) #[true, true, true, true, true, true, true, true, true, false, false, false, false] rfl rfl (by kernel_rfl) (fun _ _ _ h => h) (Or.inl ⟨by rfl, ?_⟩) ?_ ?_
      rotate_left
      · intro w'
        go_simp
        with_reducible rfl
      rotate_left
      · simp only [Act.put, List.setIfInBounds_toArray, List.set_cons_zero, List.set_cons_succ, i64_w, i32_w]
        rfl
      refine pure_ (i := 9) (N := some 19) (v := ?_) (a' := ?_) #[true, true, true, true, true, true, true, true, true, true, false, false, false] rfl rfl (by kernel_rfl) (fun _ _ _ h => h) (Or.inl ⟨by rfl, ?_⟩) ?_ ?_
      rotate_left
      · intro w'
        go_simp
        with_reducible rfl
      rotate_left
      · simp only [Act.put, List.setIfInBounds_toArray, List.set_cons_zero, List.set_cons_succ, i64_w, i32_w]
        rfl
      refine pure_ (i := 10) (N := some 5) (v := ?_) (a' := ?_) #[true, true, true, true, true, true, true, true, true, true, true, false, false] rfl rfl (by kernel_rfl) (fun _ _ _ h => h) (Or.inl ⟨by rfl, ?_⟩) ?_ ?_
      rotate_left
      · intro w'
        go_simp
        with_reducible rfl
      rotate_left
      · simp only [Act.put, List.setIfInBounds_toArray, List.set_cons_zero, List.set_cons_succ, i64_w, i32_w]
        rfl
      refine pure_ (i := 11) (N := some 6) (v := ?_) (a' := ?_) #[true, true, true, true, true, true, true, true, true, true, true, true, false] rfl rfl (by kernel_rfl) (fun _ _ _ h => h) (Or.inl ⟨by rfl, ?_⟩) ?_ ?_
      rotate_left
      · intro w'
        go_simp
        with_reducible rfl
      rotate_left
      · simp only [Act.put, List.setIfInBounds_toArray, List.set_cons_zero, List.set_cons_succ, i64_w, i32_w]
        rfl
      refine pure_ (i := 12) (N := some 7) (v := ?_) (a' := ?_) #[true, true, true, true, true, true, true, true, true, true, true, true, true] rfl rfl (by kernel_rfl) (fun _ _ _ h => h) (Or.inl ⟨by rfl, ?_⟩) ?_ ?_
      rotate_left
      · intro w'
        go_simp
        with_reducible rfl
      rotate_left
      · simp only [Act.put, List.setIfInBounds_toArray, List.set_cons_zero, List.set_cons_succ, i64_w, i32_w]
        rfl
      refine done_ (by kernel_rfl) ?_

      have q3 := QT.out.c0
      cases rest with
      | nil =>
        have hd : decide (t < nx cur) = true := decide_eq_true QH.out
        gi_wp2
        refine ⟨fun _ h => (by cases h), ?_⟩
        gi_wp2
        refine bodyPost_ret (results_none rfl _ _ _) rfl ?_
        exact ⟨⟨_, rfl⟩, .inl ⟨pre, by rw [QX.out, List.append_nil], QJ.out⟩⟩
      | cons y rest =>
        have hd : decide (t < nx cur) = false := decide_eq_false (by have := QH.out.1; have := QH.out.2.1; omega)
        have hG : pre ++ [nx cur] <+: L := by rw [QX.out, QH.out.1]; exact ⟨rest, by simp⟩
        obtain ⟨fn, tmps, assign, body, hy, hR⟩ := hY'.out pre (nx cur) w2 QJ.out hG
        have HGG := Lib.hid hG
        clear hG
        gi_wp2
        refine hR.mono ?_
        clear hR hy
        rintro e W3 (⟨rfl, hJ3, hk3⟩ | ⟨rfl, hJx3⟩)
        · have XF : Bx W3 bf 3 (.int .i64 cur) := hk3.f.trans QF.out
          have XC := Lib.hid (show Bx W3 bc 93 (.pointer (some ⟨gc, 0, none⟩)) from hk3.c.trans QC.out)
          have XT := Lib.hid (show Bx W3 bt 3 (.int .i64 t) from hk3.t.trans QT.out)
          obtain ⟨r3, XG⟩ := hk3.blk _ QG.out
          have XR := Lib.hid (hk3.row QR.out)
          have XJ := Lib.hid hJ3
          have x0 := XF.c0
          have x1 := blk_frozen XF 0
          have XF' := Lib.hid XF
          have XG' := Lib.hid XG
          clear hk3 hJ3 XG q3
          gi_wp2
          go_roundw
          case rel =>
            have hs := Fr.set W3 bf 0 (.int .i64 (nx cur))
            refine ⟨pre ++ [nx cur], rest, nx cur, r3, ?_, ?_, ?_, ?_, blk_put XF'.out 0 _ rfl, hs.blk XC.out (Ne.symm HNE.out.1), hs.blk XT.out (Ne.symm HNE.out.2.1), hs.blk XG'.out (Ne.symm HNE.out.2.2), ?_, hJ'.out _ _ _ XJ.out hs⟩
            · rw [QX.out, QH.out.1]; simp
            · rw [← QH.out.1]; exact QH.out.2.2
            · have := QN.out; have := Q0.out; omega
            · have h2 := QH.out.2.1; rw [QH.out.1] at h2; have := HB.out.2.2; omega
            · exact below_set XR.out HWF.out
          case measure =>
            rw [curOf_eq (blk_put XF'.out 0 (.int .i64 (nx cur)) rfl), curOf_eq QF0.out]
            have h2 := QH.out.2.1
            rw [QH.out.1] at h2
            have h3 := HB.out.2.2; have h4 := QN.out
            omega
        · gi_wp2
          refine bodyPost_ret (results_none rfl _ _ _) rfl ?_
          exact ⟨⟨_, rfl⟩, .inr ⟨_, HGG.out, hJx3⟩⟩
  · gi_wp2
    refine bodyPost_ret (results_none rfl _ _ _) rfl ?_
    exact ⟨⟨_, rfl⟩, .inl ⟨[], (HL0.out hfl).symm, HJ.out⟩⟩
end Go.Proofs.Ytbfhohpbldadbaa.P
