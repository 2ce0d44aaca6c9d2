import Derived.Test.YtbfhohpbldadbaaPx0
import Derived.WalkKit
import Derived.ProofKit
import Derived.OpenShut
import Derived.ChangeOld
import Derived.Below
import Derived.SizedLaws
import Derived.Deep.Slices
import Derived.Lib.SmallJoins
namespace Go.Proofs.Ytbfhohpbldadbaa.P
open Go.RowKit Go.Proofs.YtbfhohpbldadbaaW.PrintWords Go.Proofs.YtbfhohpbldadbaaW.PrintLast Go.Proofs.YtbfhohpbldadbaaW.PrintMore
set_option linter.unusedVariables false
set_option linter.unusedSimpArgs false
open Go.ChangeShapes Go.WideShapes Go.ChangeAt Go.Joins Go.Deep
set_option linter.unusedVariables false

/-- What can be read of a type is of a kind. -/
def Opens {α : Type} (P : Program) (t : TypeId) (d : Kd α) (ok : α → Prop) : Prop :=
  ∀ {H : Type} {enc : TypeId × Value → H} {w : World} {base : Nat} {spare : Nat → Bool} {held : Bool} {fuel : Nat} {cs : List Value} {x : DataW H × List MemPlace}, DataW.trod enc P w base spare held fuel t cs = some x → ∃ a, d.K w a cs ∧ ok a
theorem opens_int {P : Program} {t : TypeId} {k : IntKind} (ht : P.underlying t = some (.int k)) : Opens P t (Kd.int k) (fun n => (Lit.int k n).wf = true) := by
  intro H enc w base spare held fuel cs x h
  obtain ⟨n, rfl, _, hw⟩ := DataW.trod_int ht h
  exact ⟨n, rfl, hw⟩
theorem opens_bool {P : Program} {t : TypeId} (ht : P.underlying t = some .bool) : Opens P t Kd.bool (fun _ => True) := by
  intro H enc w base spare held fuel cs x h
  obtain ⟨b, rfl, _⟩ := DataW.trod_bool ht h
  exact ⟨b, rfl, trivial⟩
theorem opens_string {P : Program} {t : TypeId} (ht : P.underlying t = some .string) : Opens P t Kd.string (fun s => s.size ≤ maxLen) := by
  intro H enc w base spare held fuel cs x h
  obtain ⟨s, rfl, _, hs⟩ := DataW.trod_string ht h
  exact ⟨s, rfl, hs⟩
theorem choose_list {α : Type} {n : Nat} {p : Nat → α → Prop} (h : ∀ i, i < n → ∃ x, p i x) : ∃ l : List α, l.length = n ∧ ∀ i x, l[i]? = some x → p i x := by
  induction n with
  | zero => exact ⟨[], rfl, fun i x hx => by simp at hx⟩
  | succ n ih =>
    obtain ⟨l, hl, hp⟩ := ih (fun i hi => h i (by omega))
    obtain ⟨y, hy⟩ := h n (by omega)
    refine ⟨l ++ [y], by simp [hl], fun i x hx => ?_⟩
    by_cases hi : i < n
    · rw [List.getElem?_append_left (by omega)] at hx
      exact hp i x hx
    · have hin : i = n := by
        have := (List.getElem?_eq_some_iff.1 hx).1
        simp [hl] at this
        omega
      subst hin
      rw [List.getElem?_append_right (by omega)] at hx
      simp [hl] at hx
      subst hx
      exact hy
theorem opens_slice {α : Type} {P : Program} {t e : TypeId} {d : Kd α} {ok : α → Prop} (ht : P.underlying t = some (.slice e)) (he : Opens P e d ok) (hc : P.cellsOf e = d.sz) : Opens P t (Kd.slice e d) (fun xs => ∀ x ∈ xs, ok x) := by
  intro H enc w base spare held fuel cs x h
  rcases open_slice ht h with ⟨rfl, _⟩ | ⟨a, len, cap, m, n, D, Pl, rfl, _, hl, hm, hmm, _, hx⟩
  · exact ⟨[], ⟨none, 0, rfl, Nat.le_refl _, Kd.C_nil _ _⟩, by simp⟩
  · have hlm : len ≤ m := by rw [hmm]; split <;> omega
    obtain ⟨xs, hlen, hxs⟩ := choose_list (α := α) (n := len) (p := fun i y => ok y ∧ ∃ c, c.length = d.sz ∧ d.K w y c ∧ ∀ j u, c[j]? = some u → w.cell? (a.add (i * d.sz + j)) = some u) (fun i hi => by
      obtain ⟨cs', h1, h2⟩ := hx i (by omega)
      obtain ⟨y, hy, hok⟩ := he h2
      obtain ⟨_, hcl, hat⟩ := World.cells?_some h1
      rw [hc] at hcl hat
      refine ⟨y, hok, cs', hcl, hy, fun j u hj => ?_⟩
      have hjl : j < cs'.length := (List.getElem?_eq_some_iff.1 hj).1
      have := hat j (by omega)
      rw [Go.Deep.add_add] at this
      rw [this, hj])
    refine ⟨xs, ⟨some a, cap, by rw [hlen], by omega, ?_⟩, ?_⟩
    · refine ⟨rfl, by rw [hlen]; unfold maxLen at hm; omega, fun _ => ⟨a, rfl, fun j p hj => ?_⟩⟩
      obtain ⟨_, c, h1, h2, h3⟩ := hxs j p hj
      exact ⟨c, h1, h2, h3⟩
    · intro y hy
      obtain ⟨i, hi⟩ := List.getElem?_of_mem hy
      exact (hxs i y hi).1

theorem own : ownKnob Try.prog.godebug = none := by kernel_rfl
theorem laidOut : laidOutB Try.prog = true := by kernel_rfl
theorem cells3 : Try.prog.cellsOf 3 = 1 := by kernel_rfl
theorem cells9 : Try.prog.cellsOf 9 = 1 := by kernel_rfl
theorem cells23 : Try.prog.cellsOf 23 = 1 := by kernel_rfl
set_option maxRecDepth 100000 in
theorem opens_band : Opens Try.prog 110 k110 (fun _ => True) := by
  intro H enc w base spare held fuel cs x h
  obtain ⟨xs, n, _, rfl, hl, hlen, hf⟩ := DataW.trod_struct Try.underlying110 h
  rw [show Try.prog.cellsOf 110 = 2 by kernel_rfl] at hl
  match xs, hlen, cs, hl with
  | [y0, y1], _, [c0, c1], _ =>
    have h0 : DataW.trod enc Try.prog w base spare held n 3 [c0] = some y0 := by have := hf 0 _ rfl; simpa [cells3, cells9] using this
    obtain ⟨a0, e0, _⟩ := opens_int Try.underlying3 h0
    have h1 : DataW.trod enc Try.prog w base spare held n 3 [c1] = some y1 := by have := hf 1 _ rfl; simpa [cells3, cells9] using this
    obtain ⟨a1, e1, _⟩ := opens_int Try.underlying3 h1
    exact ⟨(⟨a0, a1⟩ : S110), ⟨[c0], [c1], rfl, e0, e1⟩, trivial⟩
set_option maxRecDepth 100000 in
theorem opens_meter : Opens Try.prog 33 k33 (fun _ => True) := by
  intro H enc w base spare held fuel cs x h
  obtain ⟨xs, n, _, rfl, hl, hlen, hf⟩ := DataW.trod_struct Try.underlying33 h
  rw [show Try.prog.cellsOf 33 = 5 by kernel_rfl] at hl
  match xs, hlen, cs, hl with
  | [y0, y1, y2, y3, y4], _, [c0, c1, c2, c3, c4], _ =>
    have h0 : DataW.trod enc Try.prog w base spare held n 3 [c0] = some y0 := by have := hf 0 _ rfl; simpa [cells3, cells9] using this
    obtain ⟨a0, e0, _⟩ := opens_int Try.underlying3 h0
    have h1 : DataW.trod enc Try.prog w base spare held n 3 [c1] = some y1 := by have := hf 1 _ rfl; simpa [cells3, cells9] using this
    obtain ⟨a1, e1, _⟩ := opens_int Try.underlying3 h1
    have h2 : DataW.trod enc Try.prog w base spare held n 3 [c2] = some y2 := by have := hf 2 _ rfl; simpa [cells3, cells9] using this
    obtain ⟨a2, e2, _⟩ := opens_int Try.underlying3 h2
    have h3 : DataW.trod enc Try.prog w base spare held n 9 [c3] = some y3 := by have := hf 3 _ rfl; simpa [cells3, cells9] using this
    obtain ⟨a3, e3, _⟩ := opens_string Try.underlying9 h3
    have h4 : DataW.trod enc Try.prog w base spare held n 3 [c4] = some y4 := by have := hf 4 _ rfl; simpa [cells3, cells9] using this
    obtain ⟨a4, e4, _⟩ := opens_int Try.underlying3 h4
    exact ⟨(⟨a0, a1, a2, a3, a4⟩ : S33), ⟨[c0], [c1, c2, c3, c4], rfl, e0, ⟨[c1], [c2, c3, c4], rfl, e1, ⟨[c2], [c3, c4], rfl, e2, ⟨[c3], [c4], rfl, e3, e4⟩⟩⟩⟩, trivial⟩
set_option maxRecDepth 100000 in
theorem opens_rec : Opens Try.prog 39 k39 (fun _ => True) := by
  intro H enc w base spare held fuel cs x h
  obtain ⟨xs, n, _, rfl, hl, hlen, hf⟩ := DataW.trod_struct Try.underlying39 h
  rw [show Try.prog.cellsOf 39 = 8 by kernel_rfl] at hl
  match xs, hlen, cs, hl with
  | [y0, y1, y2, y3, y4, y5, y6, y7], _, [c0, c1, c2, c3, c4, c5, c6, c7], _ =>
    have h0 : DataW.trod enc Try.prog w base spare held n 3 [c0] = some y0 := by have := hf 0 _ rfl; simpa [cells3, cells9] using this
    obtain ⟨a0, e0, _⟩ := opens_int Try.underlying3 h0
    have h1 : DataW.trod enc Try.prog w base spare held n 3 [c1] = some y1 := by have := hf 1 _ rfl; simpa [cells3, cells9] using this
    obtain ⟨a1, e1, _⟩ := opens_int Try.underlying3 h1
    have h2 : DataW.trod enc Try.prog w base spare held n 3 [c2] = some y2 := by have := hf 2 _ rfl; simpa [cells3, cells9] using this
    obtain ⟨a2, e2, _⟩ := opens_int Try.underlying3 h2
    have h3 : DataW.trod enc Try.prog w base spare held n 9 [c3] = some y3 := by have := hf 3 _ rfl; simpa [cells3, cells9] using this
    obtain ⟨a3, e3, _⟩ := opens_string Try.underlying9 h3
    have h4 : DataW.trod enc Try.prog w base spare held n 3 [c4] = some y4 := by have := hf 4 _ rfl; simpa [cells3, cells9] using this
    obtain ⟨a4, e4, _⟩ := opens_int Try.underlying3 h4
    have h5 : DataW.trod enc Try.prog w base spare held n 3 [c5] = some y5 := by have := hf 5 _ rfl; simpa [cells3, cells9] using this
    obtain ⟨a5, e5, _⟩ := opens_int Try.underlying3 h5
    have h6 : DataW.trod enc Try.prog w base spare held n 3 [c6] = some y6 := by have := hf 6 _ rfl; simpa [cells3, cells9] using this
    obtain ⟨a6, e6, _⟩ := opens_int Try.underlying3 h6
    have h7 : DataW.trod enc Try.prog w base spare held n 3 [c7] = some y7 := by have := hf 7 _ rfl; simpa [cells3, cells9] using this
    obtain ⟨a7, e7, _⟩ := opens_int Try.underlying3 h7
    exact ⟨(⟨a0, a1, a2, a3, a4, a5, a6, a7⟩ : S39), ⟨[c0], [c1, c2, c3, c4, c5, c6, c7], rfl, e0, ⟨[c1], [c2, c3, c4, c5, c6, c7], rfl, e1, ⟨[c2], [c3, c4, c5, c6, c7], rfl, e2, ⟨[c3], [c4, c5, c6, c7], rfl, e3, ⟨[c4], [c5, c6, c7], rfl, e4, ⟨[c5], [c6, c7], rfl, e5, ⟨[c6], [c7], rfl, e6, e7⟩⟩⟩⟩⟩⟩⟩, trivial⟩
set_option maxRecDepth 100000 in
theorem open_recs {H : Type} {enc : TypeId × Value → H} {w : World} {base : Nat} {spare : Nat → Bool} {held : Bool} {r : Reach} {b0 : Nat} {v : Value} {d : DataW H} {p : List MemPlace}
    (hv : Value.okWide Try.prog w r b0 28 v) (h : DataW.Trod enc Try.prog w base spare held 28 v d p) :
    ∃ (A : Option Addr) (c : Nat) (l : List (S39)), v = .slice A l.length c ∧ Kd.C k39 w A l.length l ∧ l.length ≤ c := by
  obtain ⟨A1, n1, c1, rfl⟩ := okWide_slice Try.underlying28 hv
  obtain ⟨m, hm⟩ := h
  obtain ⟨l, ⟨A, c, e, hl, hc⟩, _⟩ := opens_slice Try.underlying28 opens_rec (by kernel_rfl) hm
  have e1 : Value.slice A1 n1 c1 = .slice A l.length c := by simpa [Value.cells] using e
  exact ⟨A, c, l, e1, hc, hl⟩
set_option maxRecDepth 100000 in
theorem open_meters {H : Type} {enc : TypeId × Value → H} {w : World} {base : Nat} {spare : Nat → Bool} {held : Bool} {r : Reach} {b0 : Nat} {v : Value} {d : DataW H} {p : List MemPlace}
    (hv : Value.okWide Try.prog w r b0 22 v) (h : DataW.Trod enc Try.prog w base spare held 22 v d p) :
    ∃ (A : Option Addr) (c : Nat) (l : List (S33)), v = .slice A l.length c ∧ Kd.C k33 w A l.length l ∧ l.length ≤ c := by
  obtain ⟨A1, n1, c1, rfl⟩ := okWide_slice Try.underlying22 hv
  obtain ⟨m, hm⟩ := h
  obtain ⟨l, ⟨A, c, e, hl, hc⟩, _⟩ := opens_slice Try.underlying22 opens_meter (by kernel_rfl) hm
  have e1 : Value.slice A1 n1 c1 = .slice A l.length c := by simpa [Value.cells] using e
  exact ⟨A, c, l, e1, hc, hl⟩
set_option maxRecDepth 100000 in
theorem open_ints {H : Type} {enc : TypeId × Value → H} {w : World} {base : Nat} {spare : Nat → Bool} {held : Bool} {r : Reach} {b0 : Nat} {v : Value} {d : DataW H} {p : List MemPlace}
    (hv : Value.okWide Try.prog w r b0 50 v) (h : DataW.Trod enc Try.prog w base spare held 50 v d p) :
    ∃ (A : Option Addr) (c : Nat) (l : List (Int)), v = .slice A l.length c ∧ Kd.C (Kd.int .i64) w A l.length l ∧ l.length ≤ c := by
  obtain ⟨A1, n1, c1, rfl⟩ := okWide_slice Try.underlying50 hv
  obtain ⟨m, hm⟩ := h
  obtain ⟨l, ⟨A, c, e, hl, hc⟩, _⟩ := opens_slice Try.underlying50 (opens_int Try.underlying3) (by kernel_rfl) hm
  have e1 : Value.slice A1 n1 c1 = .slice A l.length c := by simpa [Value.cells] using e
  exact ⟨A, c, l, e1, hc, hl⟩
set_option maxRecDepth 100000 in
theorem open_tariff {H : Type} {enc : TypeId × Value → H} {w : World} {base : Nat} {spare : Nat → Bool} {held : Bool} {r : Reach} {b0 : Nat} {v : Value} {d : DataW H} {p : List MemPlace}
    (hv : Value.okWide Try.prog w r b0 25 v) (h : DataW.Trod enc Try.prog w base spare held 25 v d p) :
    ∃ (A : Option Addr) (c : Nat) (l : List S110), v = .agg #[.slice A l.length c] ∧ Kd.C k110 w A l.length l ∧ l.length ≤ c := by
  obtain ⟨cs, rfl, hsz⟩ := okWide_struct Try.underlying25 hv
  obtain ⟨m, hm⟩ := h
  obtain ⟨xs, n, _, _, hl, hlen, hf⟩ := DataW.trod_struct Try.underlying25 hm
  rw [show Try.prog.cellsOf 25 = 1 by kernel_rfl] at hsz
  obtain ⟨l0⟩ := cs
  match l0, hsz, xs, hlen with
  | [c0], _, [y0], _ =>
    have h0' : DataW.trod enc Try.prog w base spare held n 23 [c0] = some y0 := by have := hf 0 _ rfl; simpa [Value.cells, cells23] using this
    obtain ⟨l, ⟨A, c, e, hlc, hc⟩, _⟩ := opens_slice Try.underlying23 opens_band (by kernel_rfl) h0'
    have e1 : c0 = .slice A l.length c := by simpa using e
    subst e1
    exact ⟨A, c, l, rfl, hc, hlc⟩
set_option maxRecDepth 100000 in
theorem open_meter {H : Type} {enc : TypeId × Value → H} {w : World} {base : Nat} {spare : Nat → Bool} {held : Bool} {r : Reach} {b0 : Nat} {v : Value} {d : DataW H} {p : List MemPlace}
    (hv : Value.okWide Try.prog w r b0 33 v) (h : DataW.Trod enc Try.prog w base spare held 33 v d p) :
    ∃ m : S33, v = .agg #[.int .i64 m.f0, .int .i64 m.f1, .int .i64 m.f2, .string m.f3, .int .i64 m.f4] := by
  obtain ⟨cs, rfl, hsz⟩ := okWide_struct Try.underlying33 hv
  obtain ⟨m, hm⟩ := h
  obtain ⟨x, hK, _⟩ := opens_meter hm
  have e := k33_open hK
  have e' : cs.toList = _ := e
  exact ⟨x, congrArg Value.agg (by rw [← Array.toArray_toList (xs := cs), e'])⟩
end Go.Proofs.Ytbfhohpbldadbaa.P
