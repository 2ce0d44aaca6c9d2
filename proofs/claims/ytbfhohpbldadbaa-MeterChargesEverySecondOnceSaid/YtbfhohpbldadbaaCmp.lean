import Derived.Test.YtbfhohpbldadbaaSum
import Derived.Test.YtbfhohpbldadbaaV
namespace Go.Proofs.Ytbfhohpbldadbaa.P
open Go Go.RowKit Go.Proofs.YtbfhohpbldadbaaW.PrintWords Go.Proofs.YtbfhohpbldadbaaW.PrintLast Go.Proofs.YtbfhohpbldadbaaW.PrintMore
set_option linter.unusedVariables false
set_option linter.unusedSimpArgs false
/-! ### Advancing in two steps -/
theorem Ch.uniq {nx : Int → Int} {now : Int} : ∀ {L L' : List Int} {cur : Int}, Ch nx now cur L → Ch nx now cur L' → L = L'
  | [], [], _, _, _ => rfl
  | [], y :: L', _, h, h' => by have h1 : now < nx _ := h; have h2 := h'.1; have h3 := h'.2.1; omega
  | y :: L, [], _, h, h' => by have h1 : now < nx _ := h'; have h2 := h.1; have h3 := h.2.1; omega
  | y :: L, y' :: L', _, h, h' => by
    have e : y = y' := by rw [h.1, h'.1]
    subst e
    rw [Ch.uniq h.2.2 h'.2.2]
theorem Ch.app {nx : Int → Int} {now N : Int} (hn : now ≤ N) : ∀ {L L' : List Int} {cur : Int}, Ch nx now cur L → Ch nx N (lastT cur L) L' → Ch nx N cur (L ++ L')
  | [], L', _, _, h => h
  | y :: L, L', _, h, h' => ⟨h.1, Int.le_trans h.2.1 hn, Ch.app hn h.2.2 h'⟩
theorem lastT_app : ∀ (L L' : List Int) (cur : Int), lastT cur (L ++ L') = lastT (lastT cur L) L'
  | [], L', cur => rfl
  | y :: L, L', cur => lastT_app L L' y
theorem segs_app (rt : Int → Int) : ∀ (L L' : List Int) (m : S33), segs rt m (L ++ L') = segs rt m L ++ segs rt (atT m (lastT m.f4 L)) L'
  | [], L', m => by cases m; rfl
  | y :: L, L', m => by
    have h := segs_app rt L L' (atT m y)
    show recOf m y (rt m.f4) :: segs rt (atT m y) (L ++ L') = _
    rw [h]
    rfl
theorem segs_len (rt : Int → Int) : ∀ (L : List Int) (m : S33), (segs rt m L).length = L.length
  | [], m => rfl
  | y :: L, m => by simp [segs, segs_len rt L]
theorem cuts_split {bs : List S110} (hc : chkB bs = 0) {now N cur : Int} (hn : now ≤ N) (hN : N ≤ 1099511627776) (h0 : 0 ≤ cur) (h1 : cur ≤ 1099511627776) :
    cutsOf bs (nxB bs) N cur = cutsOf bs (nxB bs) now cur ++ cutsOf bs (nxB bs) N (lastT cur (cutsOf bs (nxB bs) now cur)) := by
  cases hf : flatB bs
  · have hl := lastT_range (cuts_range hc (by omega : now ≤ 1099511627776) h0 h1) h0 h1
    exact Ch.uniq (cuts_ch hc hf hN h0 h1) (Ch.app hn (cuts_ch hc hf (by omega) h0 h1) (cuts_ch hc hf hN hl.1 hl.2))
  · rw [cuts_flat hf, cuts_flat hf, cuts_flat hf]; rfl
theorem cuts_again {bs : List S110} (hc : chkB bs = 0) {now cur : Int} (hn : now ≤ 1099511627776) (h0 : 0 ≤ cur) (h1 : cur ≤ 1099511627776) :
    cutsOf bs (nxB bs) now (lastT cur (cutsOf bs (nxB bs) now cur)) = [] := by
  have h := cuts_split hc (Int.le_refl now) hn h0 h1
  have := congrArg List.length h
  rw [List.length_append] at this
  exact List.eq_nil_of_length_eq_zero (by omega)
/-- What a cut of a meter at a time makes of it. -/
def cutM (bs : List S110) (now : Int) (m : S33) : S33 := atT m (lastT m.f4 (cutsOf bs (nxB bs) now m.f4))
def cutR (bs : List S110) (now : Int) (m : S33) : List S39 := segs (rtB bs) m (cutsOf bs (nxB bs) now m.f4)
theorem cutM_range {bs : List S110} (hc : chkB bs = 0) {now : Int} (hn : now ≤ 1099511627776) {m : S33} (h0 : 0 ≤ m.f4) (h1 : m.f4 ≤ 1099511627776) : 0 ≤ (cutM bs now m).f4 ∧ (cutM bs now m).f4 ≤ 1099511627776 :=
  lastT_range (cuts_range hc hn h0 h1) h0 h1
theorem cutM_lim {bs : List S110} (hc : chkB bs = 0) {now : Int} (hn : now ≤ 1099511627776) {m : S33} (h0 : 0 ≤ m.f4) (h1 : m.f4 ≤ now) : (cutM bs now m).f4 ≤ now := by
  show lastT m.f4 (cutsOf bs (nxB bs) now m.f4) ≤ now
  cases hf : flatB bs
  · exact Ch.lim h1 (cuts_ch hc hf hn h0 (by omega))
  · rw [cuts_flat hf]; exact h1
theorem cutM_two {bs : List S110} (hc : chkB bs = 0) {now N : Int} (hn : now ≤ N) (hN : N ≤ 1099511627776) {m : S33} (h0 : 0 ≤ m.f4) (h1 : m.f4 ≤ 1099511627776) : cutM bs N (cutM bs now m) = cutM bs N m ∧ cutR bs N m = cutR bs now m ++ cutR bs N (cutM bs now m) := by
  have hs := cuts_split hc hn hN h0 h1
  constructor
  · unfold cutM
    rw [hs, lastT_app]
    rfl
  · unfold cutR
    rw [hs, segs_app]
    rfl
theorem cutM_again {bs : List S110} (hc : chkB bs = 0) {now : Int} (hn : now ≤ 1099511627776) {m : S33} (h0 : 0 ≤ m.f4) (h1 : m.f4 ≤ 1099511627776) : cutR bs now (cutM bs now m) = [] := by
  unfold cutR
  rw [show (cutM bs now m).f4 = lastT m.f4 (cutsOf bs (nxB bs) now m.f4) from rfl, cuts_again hc hn h0 h1]
  rfl
theorem stopRecs_two {bs : List S110} (hc : chkB bs = 0) {now N : Int} (hn : now ≤ N) (hN : N ≤ 1099511627776) {m : S33} (h0 : 0 ≤ m.f4) (h1 : m.f4 ≤ 1099511627776) : stopRecs bs N m = cutR bs now m ++ stopRecs bs N (cutM bs now m) := by
  have hs := cuts_split hc hn hN h0 h1
  have hl : lastT (cutM bs now m).f4 (cutsOf bs (nxB bs) N (cutM bs now m).f4) = lastT m.f4 (cutsOf bs (nxB bs) N m.f4) := by rw [hs, lastT_app]; rfl
  have ha : ∀ t, atT (cutM bs now m) t = atT m t := fun t => rfl
  unfold stopRecs
  rw [hl, ha]
  have h2 : segs (rtB bs) m (cutsOf bs (nxB bs) N m.f4) = _ := (cutM_two hc hn hN h0 h1).2
  rw [h2, List.append_assoc]
  rfl
/-- What Advance makes of a list when the records are not too many. -/
theorem adv_good {bs : List S110} {now : Int} : ∀ (l : List S33) (p : List S33 × List S39), (l.foldl (advStep bs (nxB bs) (rtB bs) now) p).2.length ≤ 1024 →
    l.foldl (advStep bs (nxB bs) (rtB bs) now) p = (p.1 ++ l.map (cutM bs now), p.2 ++ l.flatMap (cutR bs now))
  | [], p, _ => by simp
  | m :: l, p, hl => by
    have hmono := advFold_mono bs (nxB bs) (rtB bs) now l (advStep bs (nxB bs) (rtB bs) now p m)
    simp only [List.foldl_cons] at hl ⊢
    have he : advStep bs (nxB bs) (rtB bs) now p m = (p.1 ++ [cutM bs now m], p.2 ++ cutR bs now m) := by
      have ha := advM_all (bs := bs) (now := now) (m := m) (rs := p.2) (show (advStep bs (nxB bs) (rtB bs) now p m).2.length ≤ 1024 from Nat.le_trans hmono hl)
      unfold advStep
      rw [ha]
      rfl
    rw [he] at hl ⊢
    rw [adv_good l _ hl]
    simp
theorem advM_fit {bs : List S110} {now : Int} {m : S33} {rs : List S39} (h : rs.length + (cutR bs now m).length ≤ 1024) : advM bs (nxB bs) (rtB bs) now m rs = (cutM bs now m, rs ++ cutR bs now m) := by
  unfold cutR at h
  rw [segs_len] at h
  unfold advM
  rw [List.take_of_length_le (by omega), cutAll_segs]
  rfl
theorem adv_fit {bs : List S110} {now : Int} : ∀ (l : List S33) (p : List S33 × List S39), p.2.length + (l.flatMap (cutR bs now)).length ≤ 1024 → (l.foldl (advStep bs (nxB bs) (rtB bs) now) p).2.length ≤ 1024
  | [], p, h => by simpa using h
  | m :: l, p, h => by
    rw [List.flatMap_cons, List.length_append] at h
    have he : advStep bs (nxB bs) (rtB bs) now p m = (p.1 ++ [cutM bs now m], p.2 ++ cutR bs now m) := by
      unfold advStep
      rw [advM_fit (by omega)]
    rw [List.foldl_cons, he]
    exact adv_fit l _ (by simp only [List.length_append]; omega)
theorem stop_fit {bs : List S110} {ref now : Int} : ∀ (l : List S33) (p : List S33 × List S39), p.2.length + ((l.filter (isRef ref)).flatMap (stopRecs bs now)).length ≤ 1024 → (l.foldl (stopStep bs (nxB bs) (rtB bs) ref now) p).2.length ≤ 1024
  | [], p, h => by simpa using h
  | m :: l, p, h => by
    rw [List.foldl_cons]
    cases hi : isRef ref m
    · rw [List.filter_cons_of_neg (by rw [hi]; decide)] at h
      have he : stopStep bs (nxB bs) (rtB bs) ref now p m = (p.1 ++ [m], p.2) := by unfold stopStep; rw [if_neg (by rw [hi]; decide)]
      rw [he]
      exact stop_fit l _ h
    · rw [List.filter_cons_of_pos hi, List.flatMap_cons, List.length_append] at h
      have hlen : p.2.length + (cutR bs now m).length ≤ 1024 := by
        have : (cutR bs now m).length ≤ (stopRecs bs now m).length := by unfold stopRecs cutR; rw [List.length_append]; omega
        omega
      have he : stopStep bs (nxB bs) (rtB bs) ref now p m = (p.1, p.2 ++ stopRecs bs now m) := by
        unfold stopStep
        rw [if_pos hi, advM_fit hlen]
        simp only
        unfold stopRecs cutR
        rw [show (cutM bs now m).f4 = lastT m.f4 (cutsOf bs (nxB bs) now m.f4) from rfl]
        unfold cutM
        split <;> simp
      rw [he]
      exact stop_fit l _ (by simp only [List.length_append]; omega)
/-- Meters whose times were moved within the range stay valid. -/
theorem valid_map (g : S33 → S33) : ∀ (l : List S33) (ks : List (Int × Int)), validFrom ks l = true → (∀ m ∈ l, okOne (g m) = true ∧ kM (g m) = kM m) → validFrom ks (l.map g) = true
  | [], ks, _, _ => rfl
  | x :: l, ks, h, hg => by
    simp only [validFrom, Bool.and_eq_true, Bool.not_eq_true'] at h
    have hx := hg x (by simp)
    simp only [List.map_cons, validFrom, Bool.and_eq_true, Bool.not_eq_true', hx.1, hx.2]
    exact ⟨⟨trivial, h.1.2⟩, valid_map g l _ h.2 (fun m hm => hg m (List.mem_cons_of_mem _ hm))⟩
theorem ok_at {m : S33} (h : okOne m = true) {t : Int} (h0 : 0 ≤ t) (h1 : t ≤ 1099511627776) : okOne (atT m t) = true := by
  have : oddT t = false := by unfold oddT; simp; omega
  unfold okOne at h ⊢
  show (!(oddT m.f0 || oddT t) && !decide (m.f1 < 1) && !decide (3 < m.f1) && !decide (m.f2 < 0) && !decide (6 ≤ m.f2) && (m.f3.toList.isEmpty || numB m.f3)) = true
  rw [this]
  simp only [Bool.and_eq_true, Bool.not_eq_true', Bool.or_eq_false_iff] at h ⊢
  exact ⟨⟨⟨⟨⟨⟨h.1.1.1.1.1.1, trivial⟩, h.1.1.1.1.2⟩, h.1.1.1.2⟩, h.1.1.2⟩, h.1.2⟩, h.2⟩
theorem late_le {l : List S33} {p : S33 → Bool} {now : Int} (h : l.any (lateP p now) = false) {m : S33} (hm : m ∈ l) (hp : p m = true) : m.f4 ≤ now := by
  rw [List.any_eq_false] at h
  have := h _ hm
  unfold lateP at this
  rw [hp] at this
  simp at this
  omega
/-- A second begin behind an advance. -/
theorem begin_two {l : List S33} {bs : List S110} (hc : chkB bs = 0) {now N : Int} (hv : validB l = true) (hnow : 0 ≤ now) (hn : now ≤ N) (hN : N ≤ 1099511627776) (hla : ∀ m ∈ l, m.f4 ≤ now) (p : S33 → Bool) :
    beginF (l.map (cutM bs now)) N p (chkB bs) = 0 ∧ beginF l N p (chkB bs) = 0 := by
  have ht : ∀ m ∈ l, 0 ≤ m.f4 ∧ m.f4 ≤ 1099511627776 := fun m hm => time_of_ok (ok_of_valid l [] hv m hm)
  have hv2 : validB (l.map (cutM bs now)) = true := valid_map _ l [] hv (fun m hm => by
    have h := cutM_range hc (by omega : now ≤ 1099511627776) (ht m hm).1 (ht m hm).2
    exact ⟨ok_at (ok_of_valid l [] hv m hm) h.1 h.2, rfl⟩)
  have ho : oddT N = false := by unfold oddT; simp; omega
  have hlate : ∀ m : S33, m.f4 ≤ N → lateP p N m = false := fun m h => by unfold lateP; simp; intro _; exact h
  constructor
  · unfold beginF
    have : (l.map (cutM bs now)).any (lateP p N) = false := by
      rw [List.any_eq_false]
      intro x hx
      obtain ⟨m, hm, rfl⟩ := List.mem_map.1 hx
      have h := cutM_lim hc (by omega : now ≤ 1099511627776) (ht m hm).1 (hla m hm)
      rw [hlate _ (by omega)]
      decide
    rw [hv2, ho, this, hc]; rfl
  · unfold beginF
    have : l.any (lateP p N) = false := by
      rw [List.any_eq_false]
      intro x hx
      have := hla x hx
      rw [hlate _ (by omega)]
      decide
    rw [hv, ho, this, hc]; rfl
theorem sum_flat_two (ref role : Int) (f g : S33 → List S39) : ∀ (l : List S33), sumU ref role (l.flatMap (fun m => f m ++ g m)) = sumU ref role (l.flatMap f) + sumU ref role (l.flatMap g) ∧ sumS ref role (l.flatMap (fun m => f m ++ g m)) = sumS ref role (l.flatMap f) + sumS ref role (l.flatMap g)
  | [] => ⟨rfl, rfl⟩
  | m :: l => by
    have ih := sum_flat_two ref role f g l
    simp only [List.flatMap_cons, sumU_append, sumS_append, ih.1, ih.2]
    constructor <;> omega
theorem flat_congr {α : Type} {f g : S33 → List α} : ∀ (l : List S33), (∀ m ∈ l, f m = g m) → l.flatMap f = l.flatMap g
  | [], _ => rfl
  | m :: l, h => by
    rw [List.flatMap_cons, List.flatMap_cons, h m (by simp), flat_congr l (fun x hx => h x (List.mem_cons_of_mem _ hx))]
end Go.Proofs.Ytbfhohpbldadbaa.P
