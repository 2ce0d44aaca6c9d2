import Derived.Test.YtbfhohpbldadbaaRo
import Derived.SizedLaws
namespace Go.Proofs.Ytbfhohpbldadbaa.P
open Go.RowKit Go.Proofs.YtbfhohpbldadbaaW.PrintWords Go.Proofs.YtbfhohpbldadbaaW.PrintLast Go.Proofs.YtbfhohpbldadbaaW.PrintMore
set_option linter.unusedVariables false
set_option linter.unusedSimpArgs false
open Go.ChangeShapes Go.WideShapes Go.ChangeAt Go.Joins Go.Deep
theorem weightsAll_mem {H : Type} {P : Program} {e : TypeId} : ∀ {l : List (DataW H)} {d : DataW H}, d ∈ l → ∀ n ∈ d.weights P e, n ∈ DataW.weightsAll P e l
  | d' :: r, d, hd, n, hn => by
    simp only [DataW.weightsAll, List.mem_append]
    rcases List.mem_cons.1 hd with rfl | h
    · exact Or.inl hn
    · exact Or.inr (weightsAll_mem h n hn)
/-- What can be read of a type, each part within the form's reach, is of a kind. -/
def OpensW {α : Type} (P : Program) (t : TypeId) (d : Kd α) (ok : α → Prop) : Prop :=
  ∀ {H : Type} {enc : TypeId × Value → H} {w : World} {base : Nat} {spare : Nat → Bool} {held : Bool} {fuel : Nat} {cs : List Value} {x : DataW H × List MemPlace}, DataW.trod enc P w base spare held fuel t cs = some x → (∀ n ∈ x.1.weights P t, n ≤ reachBytes) → ∃ a, d.K w a cs ∧ ok a
theorem opensW_of {α : Type} {P : Program} {t : TypeId} {d : Kd α} {ok : α → Prop} (h : Opens P t d ok) : OpensW P t d ok := fun hx _ => h hx
theorem opensW_slice {α : Type} {P : Program} {t e : TypeId} {d : Kd α} {ok : α → Prop} (ht : P.underlying t = some (.slice e)) (he : OpensW P e d ok) (hc : P.cellsOf e = d.sz) : OpensW P t (Kd.slice e d) (fun xs => (∀ x ∈ xs, ok x) ∧ xs.length * P.bytesOf e ≤ reachBytes) := by
  intro H enc w base spare held fuel cs x h hw
  rcases open_slice ht h with ⟨rfl, _⟩ | ⟨a, len, cap, m, n, D, Pl, rfl, _, hl, hm, hmm, rfl, hx⟩
  · exact ⟨[], ⟨none, 0, rfl, Nat.le_refl _, Kd.C_nil _ _⟩, by simp⟩
  · have hlm : len ≤ m := by rw [hmm]; split <;> omega
    have hwl : (len + (m - len)) * P.bytesOf e ≤ reachBytes := hw _ (by simp [DataW.weights, ht])
    obtain ⟨xs, hlen, hxs⟩ := choose_list (α := α) (n := len) (p := fun i y => ok y ∧ ∃ c, c.length = d.sz ∧ d.K w y c ∧ ∀ j u, c[j]? = some u → w.cell? (a.add (i * d.sz + j)) = some u) (fun i hi => by
      obtain ⟨cs', h1, h2⟩ := hx i (by omega)
      obtain ⟨y, hy, hok⟩ := he h2 (fun n hn => hw n (by
        simp only [DataW.weights, ht, List.mem_cons, List.mem_append]
        exact Or.inr (Or.inl (weightsAll_mem (List.mem_map.2 ⟨i, List.mem_range.2 hi, rfl⟩) n hn))))
      obtain ⟨_, hcl, hat⟩ := World.cells?_some h1
      rw [hc] at hcl hat
      refine ⟨y, hok, cs', hcl, hy, fun j u hj => ?_⟩
      have hjl : j < cs'.length := (List.getElem?_eq_some_iff.1 hj).1
      have := hat j (by omega)
      rw [Go.Deep.add_add] at this
      rw [this, hj])
    refine ⟨xs, ⟨some a, cap, by rw [hlen], by omega, ?_⟩, ?_, ?_⟩
    · refine ⟨rfl, by rw [hlen]; unfold maxLen at hm; omega, fun _ => ⟨a, rfl, fun j p hj => ?_⟩⟩
      obtain ⟨_, c, h1, h2, h3⟩ := hxs j p hj
      exact ⟨c, h1, h2, h3⟩
    · intro y hy
      obtain ⟨i, hi⟩ := List.getElem?_of_mem hy
      exact (hxs i y hi).1
    · rw [hlen]
      exact Nat.le_trans (Nat.mul_le_mul_right _ (by omega)) hwl
theorem cells28 : Try.prog.cellsOf 28 = 1 := by kernel_rfl
theorem cells59 : Try.prog.cellsOf 59 = 1 := by kernel_rfl
theorem cells4 : Try.prog.cellsOf 4 = 1 := by kernel_rfl
theorem bytes39 : Try.prog.bytesOf 39 = 72 := by kernel_rfl
theorem opensW_recs : OpensW Try.prog 28 (Kd.slice 39 k39) (fun xs => xs.length ≤ 2000000000000) := by
  intro H enc w base spare held fuel cs x h hw
  obtain ⟨a, hK, _, hl⟩ := opensW_slice Try.underlying28 (opensW_of opens_rec) (by kernel_rfl) h hw
  rw [bytes39] at hl
  unfold reachBytes at hl
  exact ⟨a, hK, by omega⟩
theorem opensW_recss : OpensW Try.prog 59 (Kd.slice 28 (Kd.slice 39 k39)) (fun xs => ∀ l ∈ xs, l.length ≤ 2000000000000) := by
  intro H enc w base spare held fuel cs x h hw
  obtain ⟨a, hK, hl, _⟩ := opensW_slice Try.underlying59 opensW_recs (by kernel_rfl) h hw
  exact ⟨a, hK, hl⟩
theorem mem_app1 {α : Type} {l l' : List α} {n : α} (h : n ∈ l) : n ∈ l ++ l' := List.mem_append_left _ h
set_option maxRecDepth 100000 in
set_option maxHeartbeats 1000000 in
theorem open_end {H : Type} {enc : TypeId × Value → H} {w : World} {base : Nat} {spare : Nat → Bool} {held : Bool} {r : Reach} {b0 : Nat} {v : Value} {d : DataW H} {p : List MemPlace}
    (hv : Value.okWide Try.prog w r b0 61 v) (h : DataW.Trod enc Try.prog w base spare held 61 v d p) (hw : ∀ n ∈ d.weights Try.prog 61, n ≤ reachBytes) :
    ∃ (A0 : Option Addr) (c0 : Nat) (A3 : Option Addr) (c3 : Nat) (c : S61), v = .agg #[.slice A0 c.f0.length c0, .int .i64 c.f1, .int .i64 c.f2, .slice A3 c.f3.length c3, .bool c.f4, .int .i64 c.f5] ∧ Kd.C (Kd.slice 39 k39) w A0 c.f0.length c.f0 ∧ c.f0.length ≤ c0 ∧ Kd.C k39 w A3 c.f3.length c.f3 ∧ c.f3.length ≤ c3 ∧ c.f3.length ≤ 2000000000000 ∧ ∀ l ∈ c.f0, l.length ≤ 2000000000000 := by
  obtain ⟨cs, rfl, hsz⟩ := okWide_struct Try.underlying61 hv
  obtain ⟨m, hm⟩ := h
  obtain ⟨xs, n, _, hd, hl, hlen, hf⟩ := DataW.trod_struct Try.underlying61 hm
  rw [show Try.prog.cellsOf 61 = 6 by kernel_rfl] at hsz
  obtain ⟨l0⟩ := cs
  match l0, hsz, xs, hlen with
  | [c0, c1, c2, c3, c4, c5], _, [y0, y1, y2, y3, y4, y5], _ =>
    injection hd with hd _
    subst hd
    have h0 : DataW.trod enc Try.prog w base spare held n 59 [c0] = some y0 := by have := hf 0 _ rfl; simpa [Value.cells, cells3, cells28, cells59, cells4] using this
    have h1 : DataW.trod enc Try.prog w base spare held n 3 [c1] = some y1 := by have := hf 1 _ rfl; simpa [Value.cells, cells3, cells28, cells59, cells4] using this
    have h2 : DataW.trod enc Try.prog w base spare held n 3 [c2] = some y2 := by have := hf 2 _ rfl; simpa [Value.cells, cells3, cells28, cells59, cells4] using this
    have h3 : DataW.trod enc Try.prog w base spare held n 28 [c3] = some y3 := by have := hf 3 _ rfl; simpa [Value.cells, cells3, cells28, cells59, cells4] using this
    have h4 : DataW.trod enc Try.prog w base spare held n 4 [c4] = some y4 := by have := hf 4 _ rfl; simpa [Value.cells, cells3, cells28, cells59, cells4] using this
    have h5 : DataW.trod enc Try.prog w base spare held n 3 [c5] = some y5 := by have := hf 5 _ rfl; simpa [Value.cells, cells3, cells28, cells59, cells4] using this
    obtain ⟨a0, ⟨A0, k0, e0, lo, ho⟩, g0⟩ := opensW_recss h0 (fun n hn => hw n (by simp only [DataW.weights, Try.underlying61, List.map, DataW.weightsEach, List.mem_append]; exact Or.inl hn))
    obtain ⟨a1, e1, _⟩ := opens_int Try.underlying3 h1
    obtain ⟨a2, e2, _⟩ := opens_int Try.underlying3 h2
    obtain ⟨a3, ⟨A3, k3, e3, li, hi⟩, g3⟩ := opensW_recs h3 (fun n hn => hw n (by simp only [DataW.weights, Try.underlying61, List.map, DataW.weightsEach, List.mem_append]; exact Or.inr (Or.inr (Or.inr (Or.inl hn)))))
    obtain ⟨a4, e4, _⟩ := opens_bool Try.underlying4 h4
    obtain ⟨a5, e5, _⟩ := opens_int Try.underlying3 h5
    have f0 : c0 = .slice A0 a0.length k0 := by simpa using e0
    have f1 : c1 = .int .i64 a1 := by simpa [Kd.int, Kd.scalar] using e1
    have f2 : c2 = .int .i64 a2 := by simpa [Kd.int, Kd.scalar] using e2
    have f3 : c3 = .slice A3 a3.length k3 := by simpa using e3
    have f4 : c4 = .bool a4 := by simpa [Kd.bool, Kd.scalar] using e4
    have f5 : c5 = .int .i64 a5 := by simpa [Kd.int, Kd.scalar] using e5
    subst f0 f1 f2 f3 f4 f5
    exact ⟨A0, k0, A3, k3, ⟨a0, a1, a2, a3, a4, a5⟩, rfl, ho, lo, hi, li, g3, g0⟩
set_option maxRecDepth 100000 in
theorem open_batch {H : Type} {enc : TypeId × Value → H} {w : World} {base : Nat} {spare : Nat → Bool} {held : Bool} {r : Reach} {b0 : Nat} {v : Value} {d : DataW H} {p : List MemPlace}
    (hv : Value.okWide Try.prog w r b0 83 v) (h : DataW.Trod enc Try.prog w base spare held 83 v d p) :
    ∃ (A2 : Option Addr) (c2 : Nat) (b : S83), v = .agg #[.int .i64 b.f0, .bool b.f1, .slice A2 b.f2.length c2] ∧ Kd.C k39 w A2 b.f2.length b.f2 ∧ b.f2.length ≤ c2 := by
  obtain ⟨cs, rfl, hsz⟩ := okWide_struct Try.underlying83 hv
  obtain ⟨m, hm⟩ := h
  obtain ⟨xs, n, _, hd, hl, hlen, hf⟩ := DataW.trod_struct Try.underlying83 hm
  rw [show Try.prog.cellsOf 83 = 3 by kernel_rfl] at hsz
  obtain ⟨l0⟩ := cs
  match l0, hsz, xs, hlen with
  | [c0, c1, c2], _, [y0, y1, y2], _ =>
    have h0 : DataW.trod enc Try.prog w base spare held n 3 [c0] = some y0 := by have := hf 0 _ rfl; simpa [Value.cells, cells3, cells28, cells4] using this
    have h1 : DataW.trod enc Try.prog w base spare held n 4 [c1] = some y1 := by have := hf 1 _ rfl; simpa [Value.cells, cells3, cells28, cells4] using this
    have h2 : DataW.trod enc Try.prog w base spare held n 28 [c2] = some y2 := by have := hf 2 _ rfl; simpa [Value.cells, cells3, cells28, cells4] using this
    obtain ⟨a0, e0, _⟩ := opens_int Try.underlying3 h0
    obtain ⟨a1, e1, _⟩ := opens_bool Try.underlying4 h1
    obtain ⟨a2, ⟨A2, k2, e2, l2, g2⟩, _⟩ := opens_slice Try.underlying28 opens_rec (by kernel_rfl) h2
    have f0 : c0 = .int .i64 a0 := by simpa [Kd.int, Kd.scalar] using e0
    have f1 : c1 = .bool a1 := by simpa [Kd.bool, Kd.scalar] using e1
    have f2 : c2 = .slice A2 a2.length k2 := by simpa using e2
    subst f0 f1 f2
    exact ⟨A2, k2, ⟨a0, a1, a2⟩, rfl, g2, l2⟩
theorem weights_at {H : Type} {ts : List TypeId} {ds : List (DataW H)} (h : (DataW.weightsEach Try.prog ts ds).all (· ≤ reachBytes) = true) (j : Nat) {t : TypeId} {d : DataW H} (ht : ts[j]? = some t) (hd : ds[j]? = some d) : ∀ n ∈ d.weights Try.prog t, n ≤ reachBytes := fun n hn => by
  have := List.all_eq_true.1 h n (DataW.weights_mem_each ht hd n hn)
  simpa using this
end Go.Proofs.Ytbfhohpbldadbaa.P
