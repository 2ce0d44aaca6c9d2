import Derived.Test.YtbfhohpbldadbaaU
namespace Go.Proofs.Ytbfhohpbldadbaa.P
open Go Go.RowKit Go.Proofs.YtbfhohpbldadbaaW.PrintWords Go.Proofs.YtbfhohpbldadbaaW.PrintLast Go.Proofs.YtbfhohpbldadbaaW.PrintMore
set_option linter.unusedVariables false
set_option linter.unusedSimpArgs false
/-! ### What advance cuts -/
def atT (m : S33) (t : Int) : S33 := ⟨m.f0, m.f1, m.f2, m.f3, t⟩
def lastT : Int → List Int → Int
  | cur, [] => cur
  | _, y :: L => lastT y L
def segs (rt : Int → Int) (m : S33) : List Int → List S39
  | [] => []
  | y :: L => recOf m y (rt m.f4) :: segs rt (atT m y) L
theorem cutAll_segs (rt : Int → Int) : ∀ (L : List Int) (m : S33) (rs : List S39), cutAll rt m rs L = (atT m (lastT m.f4 L), rs ++ segs rt m L)
  | [], m, rs => by simp [cutAll, segs, lastT, atT]
  | y :: L, m, rs => by
    have h := cutAll_segs rt L (atT m y) (rs ++ [recOf m y (rt m.f4)])
    have e : cutAll rt m rs (y :: L) = cutAll rt (atT m y) (rs ++ [recOf m y (rt m.f4)]) L := rfl
    rw [e, h]
    simp [segs, lastT, atT]
/-- A chain of changes. -/
def Chain (nx : Int → Int) : Int → List Int → Prop
  | _, [] => True
  | cur, y :: L => y = nx cur ∧ Chain nx y L
theorem Ch.chain {nx : Int → Int} {now : Int} : ∀ {L : List Int} {cur : Int}, Ch nx now cur L → Chain nx cur L
  | [], _, _ => trivial
  | y :: L, _, h => ⟨h.1, Ch.chain h.2.2⟩
theorem Ch.last {nx : Int → Int} {now : Int} : ∀ {L : List Int} {cur : Int}, Ch nx now cur L → now < nx (lastT cur L)
  | [], _, h => h
  | y :: L, _, h => Ch.last (L := L) h.2.2
theorem Chain.take {nx : Int → Int} : ∀ {L : List Int} {cur : Int} (n : Nat), Chain nx cur L → Chain nx cur (L.take n)
  | [], _, n, _ => by rw [List.take_nil]; trivial
  | y :: L, _, 0, _ => trivial
  | y :: L, _, n + 1, h => ⟨h.1, Chain.take n h.2⟩
theorem lastT_range : ∀ {L : List Int} {cur B : Int}, (∀ y ∈ L, 0 ≤ y ∧ y ≤ B) → 0 ≤ cur → cur ≤ B → 0 ≤ lastT cur L ∧ lastT cur L ≤ B
  | [], _, _, _, h0, h1 => ⟨h0, h1⟩
  | y :: L, _, _, h, _, _ => lastT_range (L := L) (fun z hz => h z (List.mem_cons_of_mem _ hz)) (h y (by simp)).1 (h y (by simp)).2
/-- A record that advance cuts. -/
structure GoodRec (bs : List S110) (r : S39) : Prop where
  t0 : 0 ≤ r.f4
  t1 : r.f5 ≤ 1099511627776
  nx : r.f5 = nxB bs r.f4
  up : r.f4 < r.f5
  rate : r.f6 = rtB bs r.f4
  units : r.f7 = r.f6 * (r.f5 - r.f4)
theorem mul_small {r d : Int} (h0 : 0 ≤ r) (h1 : r ≤ 1000000) (d0 : 0 ≤ d) (d1 : d ≤ 1099511627776) : 0 ≤ r * d ∧ r * d ≤ 1099511627776000000 := by
  refine ⟨Int.mul_nonneg h0 d0, ?_⟩
  have h := Int.mul_le_mul h1 d1 d0 (by omega : (0 : Int) ≤ 1000000)
  omega
theorem rec_units {bs : List S110} (hc : chkB bs = 0) {m : S33} {y : Int} (h0 : 0 ≤ m.f4) (h1 : m.f4 ≤ y) (h2 : y ≤ 1099511627776) : (recOf m y (rtB bs m.f4)).f7 = rtB bs m.f4 * (y - m.f4) := by
  have hr := rt_range hc m.f4
  have hm := mul_small hr.1 hr.2 (d := y - m.f4) (by omega) (by omega)
  show wrap64 (rtB bs m.f4 * wrap64 (y - m.f4)) = _
  rw [wr (n := y - m.f4) (by omega) (by omega), wr (by omega) (by omega)]
theorem segs_good {bs : List S110} (hc : chkB bs = 0) (hf : flatB bs = false) : ∀ (L : List Int) (m : S33), Chain (nxB bs) m.f4 L → (∀ y ∈ L, 0 ≤ y ∧ y ≤ 1099511627776) → 0 ≤ m.f4 → m.f4 ≤ 1099511627776 → ∀ r ∈ segs (rtB bs) m L, GoodRec bs r
  | [], m, _, _, _, _ => fun r hr => by simp [segs] at hr
  | y :: L, m, hch, hy, h0, h1 => fun r hr => by
    have hy0 := hy y (by simp)
    have hup := (change_eq hc hf (Nat.le_refl 26) h0 h1).2
    rcases List.mem_cons.1 hr with e | e
    · subst e
      exact ⟨h0, hy0.2, hch.1, by show m.f4 < y; rw [hch.1]; exact hup, rfl, rec_units hc h0 (by rw [hch.1]; omega) hy0.2⟩
    · exact segs_good hc hf L (atT m y) hch.2 (fun z hz => hy z (List.mem_cons_of_mem _ hz)) hy0.1 hy0.2 r e
/-- Cuts of one meter that did not fill the records. -/
theorem advM_all {bs : List S110} {now : Int} {m : S33} {rs : List S39} (h : (advM bs (nxB bs) (rtB bs) now m rs).2.length ≤ 1024) :
    advM bs (nxB bs) (rtB bs) now m rs = (atT m (lastT m.f4 (cutsOf bs (nxB bs) now m.f4)), rs ++ segs (rtB bs) m (cutsOf bs (nxB bs) now m.f4)) := by
  unfold advM at h ⊢
  rw [cutAll_len, List.length_take] at h
  rw [List.take_of_length_le (by omega), cutAll_segs]
theorem cuts_ch {bs : List S110} (hc : chkB bs = 0) (hf : flatB bs = false) {now cur : Int} (hn : now ≤ 1099511627776) (h0 : 0 ≤ cur) (h1 : cur ≤ 1099511627776) : Ch (nxB bs) now cur (cutsOf bs (nxB bs) now cur) := by
  unfold cutsOf
  rw [if_neg (by rw [hf]; decide)]
  exact chgs_ch (fun t t0 t1 => (change_eq hc hf (Nat.le_refl 26) t0 t1).2) hn _ _ h0 h1 (Nat.le_refl _)
theorem cuts_range {bs : List S110} (hc : chkB bs = 0) {now cur : Int} (hn : now ≤ 1099511627776) (h0 : 0 ≤ cur) (h1 : cur ≤ 1099511627776) : ∀ y ∈ cutsOf bs (nxB bs) now cur, 0 ≤ y ∧ y ≤ 1099511627776 :=
  cutsOf_range (tar_of hc (Nat.le_refl 26)) hn h0 h1
theorem cuts_flat {bs : List S110} (hf : flatB bs = true) (now cur : Int) : cutsOf bs (nxB bs) now cur = [] := by unfold cutsOf; rw [if_pos hf]
/-- All the records of a fold are good. -/
theorem segs_all_good {bs : List S110} (hc : chkB bs = 0) {now : Int} (hn : now ≤ 1099511627776) (m : S33) (h0 : 0 ≤ m.f4) (h1 : m.f4 ≤ 1099511627776) : ∀ r ∈ segs (rtB bs) m (cutsOf bs (nxB bs) now m.f4), GoodRec bs r ∧ flatB bs = false := by
  cases hf : flatB bs
  · exact fun r hr => ⟨segs_good hc hf _ m (cuts_ch hc hf hn h0 h1).chain (cuts_range hc hn h0 h1) h0 h1 r hr, rfl⟩
  · rw [cuts_flat hf]; intro r hr; simp [segs] at hr
end Go.Proofs.Ytbfhohpbldadbaa.P
