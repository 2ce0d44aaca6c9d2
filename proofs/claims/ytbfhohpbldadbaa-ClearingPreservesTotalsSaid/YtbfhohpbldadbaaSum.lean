import Derived.Test.YtbfhohpbldadbaaSeg
import Derived.Test.YtbfhohpbldadbaaPx4
namespace Go.Proofs.Ytbfhohpbldadbaa.P
open Go Go.RowKit Go.Proofs.YtbfhohpbldadbaaW.PrintWords Go.Proofs.YtbfhohpbldadbaaW.PrintLast Go.Proofs.YtbfhohpbldadbaaW.PrintMore
set_option linter.unusedVariables false
set_option linter.unusedSimpArgs false
theorem wadd_l (a b : Int) : wrap64 (wrap64 a + b) = wrap64 (a + b) := by unfold wrap64; omega
theorem wadd_r (a b : Int) : wrap64 (a + wrap64 b) = wrap64 (a + b) := by unfold wrap64; omega
theorem wsub_l (a b : Int) : wrap64 (wrap64 a - b) = wrap64 (a - b) := by unfold wrap64; omega
theorem wrap_id {n : Int} (h0 : -9223372036854775808 ≤ n) (h1 : n ≤ 9223372036854775807) : wrap64 n = n := by unfold wrap64; omega
/-- The sums of the records of a call in a role. -/
def sumU (ref role : Int) : List S39 → Int
  | [] => 0
  | r :: l => (if r.f0 = ref ∧ r.f1 = role then r.f7 else 0) + sumU ref role l
def sumS (ref role : Int) : List S39 → Int
  | [] => 0
  | r :: l => (if r.f0 = ref ∧ r.f1 = role then r.f5 - r.f4 else 0) + sumS ref role l
theorem sumU_append (ref role : Int) : ∀ (a b : List S39), sumU ref role (a ++ b) = sumU ref role a + sumU ref role b
  | [], b => by simp [sumU]
  | r :: a, b => by simp only [List.cons_append, sumU, sumU_append ref role a b]; omega
theorem sumS_append (ref role : Int) : ∀ (a b : List S39), sumS ref role (a ++ b) = sumS ref role a + sumS ref role b
  | [], b => by simp [sumS]
  | r :: a, b => by simp only [List.cons_append, sumS, sumS_append ref role a b]; omega
theorem rd39_at {bs : List S39} {i : Nat} (h : i < bs.length) : rd_T39 bs (i : Int) = bs[i] := by
  unfold rd_T39
  rw [Int.toNat_natCast]
  exact getD_at h z39
theorem total_l0 (ref role : Int) (rs : List S39) (hl : rs.length ≤ 1000000) : ∀ (d i k : Nat) (U S : Int), i + d = rs.length → d < k → meter_Total.l0 k ref role (wrap64 U) (wrap64 S) rs (rs.length : Int) (i : Int) = some (wrap64 (U + sumU ref role (rs.drop i)), wrap64 (S + sumS ref role (rs.drop i)))
  | 0, i, k + 1, U, S, hi, hk => by
    unfold meter_Total.l0
    rw [if_neg (by omega), List.drop_of_length_le (by omega)]
    simp [sumU, sumS]
  | d + 1, i, k + 1, U, S, hi, hk => by
    have hlt : i < rs.length := by omega
    unfold meter_Total.l0
    rw [if_pos (by omega), if_pos (by omega), if_pos (by omega), List.drop_eq_getElem_cons hlt, rd39_at hlt, wrap_id (n := (i : Int) + 1) (by omega) (by omega)]
    have ih := fun U' S' => total_l0 ref role rs hl d (i + 1) k U' S' (by omega) (by omega)
    rw [show ((i : Int) + 1) = ((i + 1 : Nat) : Int) from by omega]
    by_cases h1 : rs[i].f0 = ref
    · by_cases h2 : rs[i].f1 = role
      · rw [if_pos h1, if_pos h2, wadd_l, wadd_l, wadd_r, ih]
        simp only [sumU, sumS, h1, h2, and_self, if_true]
        rw [Int.add_assoc, Int.add_assoc]
      · rw [if_pos h1, if_neg h2, ih]
        simp [sumU, sumS, h2]
    · rw [if_neg h1, ih]
      simp [sumU, sumS, h1]
theorem total_eq (rs : List S39) (ref role : Int) (hl : rs.length ≤ 1000000) {k : Nat} (hk : rs.length < k) : meter_Total.f k rs ref role = some (wrap64 (sumU ref role rs), wrap64 (sumS ref role rs)) := by
  unfold meter_Total.f
  have h := total_l0 ref role rs hl rs.length 0 k 0 0 (by omega) hk
  rw [show wrap64 0 = 0 from by unfold wrap64; omega, Int.zero_add, Int.zero_add, List.drop_zero] at h
  exact h
/-! ### Sums of what is cut -/
theorem sumU_none (ref role : Int) : ∀ (L : List S39), (∀ r ∈ L, ¬ (r.f0 = ref ∧ r.f1 = role)) → sumU ref role L = 0 ∧ sumS ref role L = 0
  | [], _ => ⟨rfl, rfl⟩
  | r :: L, h => by
    have ih := sumU_none ref role L (fun x hx => h x (List.mem_cons_of_mem _ hx))
    have hr := h r (by simp)
    simp only [sumU, sumS, if_neg hr, ih.1, ih.2]
    exact ⟨rfl, rfl⟩
theorem segs_key (rt : Int → Int) : ∀ (L : List Int) (m : S33), ∀ r ∈ segs rt m L, r.f0 = m.f0 ∧ r.f1 = m.f1
  | [], m => fun r hr => by simp [segs] at hr
  | y :: L, m => fun r hr => by
    rcases List.mem_cons.1 hr with e | e
    · subst e; exact ⟨rfl, rfl⟩
    · exact segs_key rt L (atT m y) r e
theorem segs_sum {bs : List S110} (hc : chkB bs = 0) (hf : flatB bs = false) : ∀ (L : List Int) (m : S33), Chain (nxB bs) m.f4 L → (∀ y ∈ L, 0 ≤ y ∧ y ≤ 1099511627776) → 0 ≤ m.f4 → m.f4 ≤ 1099511627776 →
    sumU m.f0 m.f1 (segs (rtB bs) m L) = untilV bs (lastT m.f4 L) - untilV bs m.f4 ∧ sumS m.f0 m.f1 (segs (rtB bs) m L) = lastT m.f4 L - m.f4 ∧ m.f4 ≤ lastT m.f4 L
  | [], m, _, _, _, _ => by simp [segs, sumU, sumS, lastT]
  | y :: L, m, hch, hy, h0, h1 => by
    have hy0 := hy y (by simp)
    have hup := (change_eq hc hf (Nat.le_refl 26) h0 h1).2
    have hmy : m.f4 < y := by rw [hch.1]; exact hup
    have ih := segs_sum hc hf L (atT m y) hch.2 (fun z hz => hy z (List.mem_cons_of_mem _ hz)) hy0.1 hy0.2
    have hu := rec_units hc h0 (y := y) (by omega) hy0.2
    have hsp := until_span hc (r := rtB bs m.f4) (a := m.f4) (b := y) h0 (by omega) (fun u hu hlt => rt_const hc hf h0 hu (by rw [← hch.1]; exact hlt))
    have e0 : (recOf m y (rtB bs m.f4)).f0 = m.f0 := rfl
    have e1 : (recOf m y (rtB bs m.f4)).f1 = m.f1 := rfl
    have e4 : (recOf m y (rtB bs m.f4)).f4 = m.f4 := rfl
    have e5 : (recOf m y (rtB bs m.f4)).f5 = y := rfl
    obtain ⟨i1, i2, i3⟩ := ih
    have a0 : (atT m y).f0 = m.f0 := rfl
    have a1 : (atT m y).f1 = m.f1 := rfl
    have a4 : (atT m y).f4 = y := rfl
    rw [a0, a1, a4] at i1 i2
    rw [a4] at i3
    simp only [segs, sumU, sumS, e0, e1, e4, e5, and_self, if_true, lastT, i1, i2, hu]
    refine ⟨?_, ?_, by omega⟩
    · omega
    · omega
/-- The records of a meter that is stopped. -/
def stopRecs (bs : List S110) (now : Int) (m : S33) : List S39 :=
  segs (rtB bs) m (cutsOf bs (nxB bs) now m.f4) ++ (if lastT m.f4 (cutsOf bs (nxB bs) now m.f4) < now then [recOf (atT m (lastT m.f4 (cutsOf bs (nxB bs) now m.f4))) now (rtB bs (lastT m.f4 (cutsOf bs (nxB bs) now m.f4)))] else [])
theorem stopRecs_key (bs : List S110) (now : Int) (m : S33) : ∀ r ∈ stopRecs bs now m, r.f0 = m.f0 ∧ r.f1 = m.f1 := fun r hr => by
  unfold stopRecs at hr
  rcases List.mem_append.1 hr with h | h
  · exact segs_key _ _ m r h
  · split at h
    · rw [List.mem_singleton] at h; subst h; exact ⟨rfl, rfl⟩
    · simp at h
theorem Ch.lim {nx : Int → Int} {now : Int} : ∀ {L : List Int} {cur : Int}, cur ≤ now → Ch nx now cur L → lastT cur L ≤ now
  | [], _, h, _ => h
  | y :: L, _, _, h => Ch.lim (L := L) h.2.1 h.2.2
theorem stop_sum {bs : List S110} (hc : chkB bs = 0) {now : Int} (hn : now ≤ 1099511627776) {m : S33} (h0 : 0 ≤ m.f4) (h1 : m.f4 ≤ now) :
    sumU m.f0 m.f1 (stopRecs bs now m) = untilV bs now - untilV bs m.f4 ∧ sumS m.f0 m.f1 (stopRecs bs now m) = now - m.f4 := by
  obtain ⟨t, ht⟩ : ∃ t, t = lastT m.f4 (cutsOf bs (nxB bs) now m.f4) := ⟨_, rfl⟩
  have hseg : sumU m.f0 m.f1 (segs (rtB bs) m (cutsOf bs (nxB bs) now m.f4)) = untilV bs t - untilV bs m.f4 ∧ sumS m.f0 m.f1 (segs (rtB bs) m (cutsOf bs (nxB bs) now m.f4)) = t - m.f4 ∧ m.f4 ≤ t ∧ t ≤ now ∧ (∀ u, t ≤ u → u < now → rtB bs u = rtB bs t) := by
    cases hf : flatB bs
    · have hch := cuts_ch hc hf hn h0 (by omega : m.f4 ≤ 1099511627776)
      have h := segs_sum hc hf _ m hch.chain (cuts_range hc hn h0 (by omega)) h0 (by omega)
      rw [← ht] at h
      have hl := Ch.lim h1 hch
      rw [← ht] at hl
      have hx := hch.last
      rw [← ht] at hx
      exact ⟨h.1, h.2.1, h.2.2, hl, fun u hu hlt => rt_const hc hf (by omega) hu (by omega)⟩
    · rw [cuts_flat hf] at ht ⊢
      have ht' : t = m.f4 := ht
      rw [ht']
      exact ⟨by simp [segs, sumU], by simp [segs, sumS], Int.le_refl _, h1, fun u _ _ => rt_flat hc hf _ _⟩
  obtain ⟨s1, s2, s3, s4, s5⟩ := hseg
  unfold stopRecs
  rw [sumU_append, sumS_append, s1, s2, ← ht]
  by_cases hlt : t < now
  · rw [if_pos hlt]
    have hsp := until_span hc (r := rtB bs t) (a := t) (b := now) (by omega) (by omega) s5
    have hu := rec_units hc (m := atT m t) (y := now) (show 0 ≤ t by omega) (show t ≤ now by omega) hn
    have a4 : (atT m t).f4 = t := rfl
    rw [a4] at hu
    have e0 : (recOf (atT m t) now (rtB bs t)).f0 = m.f0 := rfl
    have e1 : (recOf (atT m t) now (rtB bs t)).f1 = m.f1 := rfl
    have e4 : (recOf (atT m t) now (rtB bs t)).f4 = t := rfl
    have e5 : (recOf (atT m t) now (rtB bs t)).f5 = now := rfl
    simp only [sumU, sumS, e0, e1, e4, e5, and_self, if_true, hu]
    constructor <;> omega
  · rw [if_neg hlt]
    have : t = now := by omega
    subst this
    simp only [sumU, sumS]
    constructor <;> omega
/-- What Stop leaves when the records are not too many. -/
theorem stop_good {bs : List S110} {ref now : Int} : ∀ (l : List S33) (p : List S33 × List S39), (l.foldl (stopStep bs (nxB bs) (rtB bs) ref now) p).2.length ≤ 1024 →
    l.foldl (stopStep bs (nxB bs) (rtB bs) ref now) p = (p.1 ++ l.filter (fun m => !isRef ref m), p.2 ++ (l.filter (isRef ref)).flatMap (stopRecs bs now))
  | [], p, _ => by simp
  | m :: l, p, hl => by
    have hmono := stopFold_mono bs (nxB bs) (rtB bs) ref now l (stopStep bs (nxB bs) (rtB bs) ref now p m)
    simp only [List.foldl_cons] at hl ⊢
    have hq : (stopStep bs (nxB bs) (rtB bs) ref now p m).2.length ≤ 1024 := Nat.le_trans hmono hl
    cases hi : isRef ref m
    · have he : stopStep bs (nxB bs) (rtB bs) ref now p m = (p.1 ++ [m], p.2) := by unfold stopStep; rw [if_neg (by rw [hi]; decide)]
      rw [he] at hl ⊢
      rw [stop_good l _ hl]
      simp [hi]
    · have hlen : (advM bs (nxB bs) (rtB bs) now m p.2).2.length ≤ 1024 := by
        unfold stopStep at hq
        rw [if_pos hi] at hq
        simp only at hq
        split at hq
        · rw [List.length_append] at hq; omega
        · exact hq
      have he : stopStep bs (nxB bs) (rtB bs) ref now p m = (p.1, p.2 ++ stopRecs bs now m) := by
        unfold stopStep
        rw [if_pos hi, advM_all hlen]
        have e4 : (atT m (lastT m.f4 (cutsOf bs (nxB bs) now m.f4))).f4 = lastT m.f4 (cutsOf bs (nxB bs) now m.f4) := rfl
        simp only [e4]
        unfold stopRecs
        split <;> simp
      rw [he] at hl ⊢
      rw [stop_good l _ hl]
      simp [hi]
theorem valid_nokey : ∀ (l : List S33) (ks : List (Int × Int)), validFrom ks l = true → ∀ m ∈ l, hasK (kM m) ks = false
  | [], ks, _ => fun m hm => by simp at hm
  | x :: l, ks, h => fun m hm => by
    simp only [validFrom, Bool.and_eq_true, Bool.not_eq_true'] at h
    rcases List.mem_cons.1 hm with e | e
    · subst e; exact h.1.2
    · have := valid_nokey l _ h.2 m e
      unfold hasK at this ⊢
      rw [List.any_append] at this
      simp only [Bool.or_eq_false_iff] at this
      exact this.1
theorem valid_distinct : ∀ (l : List S33) (ks : List (Int × Int)) (x : S33), validFrom ks (x :: l) = true → ∀ m ∈ l, ¬ (m.f0 = x.f0 ∧ m.f1 = x.f1) := fun l ks x h m hm hx => by
  simp only [validFrom, Bool.and_eq_true] at h
  have := valid_nokey l _ h.2 m hm
  unfold hasK at this
  rw [List.any_append] at this
  simp only [Bool.or_eq_false_iff, List.any_cons, List.any_nil, Bool.or_false, kM] at this
  simp [hx.1, hx.2] at this
theorem stop_total (bs : List S110) (ref role now : Int) : ∀ (l : List S33) (ks : List (Int × Int)), validFrom ks l = true →
    ((∀ m ∈ l, ¬ (m.f0 = ref ∧ m.f1 = role)) → sumU ref role ((l.filter (isRef ref)).flatMap (stopRecs bs now)) = 0 ∧ sumS ref role ((l.filter (isRef ref)).flatMap (stopRecs bs now)) = 0) ∧
    (∀ m ∈ l, m.f0 = ref → m.f1 = role → sumU ref role ((l.filter (isRef ref)).flatMap (stopRecs bs now)) = sumU ref role (stopRecs bs now m) ∧ sumS ref role ((l.filter (isRef ref)).flatMap (stopRecs bs now)) = sumS ref role (stopRecs bs now m))
  | [], ks, _ => ⟨fun _ => ⟨rfl, rfl⟩, fun m hm => by simp at hm⟩
  | x :: l, ks, h => by
    have hd := valid_distinct l ks x h
    have h' : validFrom (ks ++ [kM x]) l = true := by simp only [validFrom, Bool.and_eq_true] at h; exact h.2
    have ih := stop_total bs ref role now l _ h'
    have hx0 : ¬ (x.f0 = ref ∧ x.f1 = role) → sumU ref role (stopRecs bs now x) = 0 ∧ sumS ref role (stopRecs bs now x) = 0 := fun hn => sumU_none ref role _ (fun r hr hk => hn (by
      have := stopRecs_key bs now x r hr
      rw [this.1, this.2] at hk
      exact hk))
    have hsplit : sumU ref role (((x :: l).filter (isRef ref)).flatMap (stopRecs bs now)) = (if isRef ref x = true then sumU ref role (stopRecs bs now x) else 0) + sumU ref role ((l.filter (isRef ref)).flatMap (stopRecs bs now)) ∧
        sumS ref role (((x :: l).filter (isRef ref)).flatMap (stopRecs bs now)) = (if isRef ref x = true then sumS ref role (stopRecs bs now x) else 0) + sumS ref role ((l.filter (isRef ref)).flatMap (stopRecs bs now)) := by
      cases hi : isRef ref x
      · simp [hi]
      · simp [hi, sumU_append, sumS_append]
    rw [hsplit.1, hsplit.2]
    constructor
    · intro hn
      have hxn := hx0 (hn x (by simp))
      have hl := ih.1 (fun m hm => hn m (List.mem_cons_of_mem _ hm))
      rw [hl.1, hl.2, hxn.1, hxn.2]
      constructor <;> split <;> rfl
    · intro m hm h0 h1
      rcases List.mem_cons.1 hm with e | e
      · subst e
        have hl := ih.1 (fun y hy hk => hd y hy ⟨by rw [hk.1, h0], by rw [hk.2, h1]⟩)
        have hi : isRef ref m = true := by unfold isRef; rw [h0]; simp
        rw [hl.1, hl.2, if_pos hi, if_pos hi]
        constructor <;> omega
      · have hxn := hx0 (fun hk => hd m e ⟨by rw [hk.1, h0], by rw [hk.2, h1]⟩)
        have hl := ih.2 m e h0 h1
        rw [hl.1, hl.2, hxn.1, hxn.2]
        constructor <;> split <;> omega
end Go.Proofs.Ytbfhohpbldadbaa.P
