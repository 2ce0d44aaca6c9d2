import Derived.Test.YtbfhohpbldadbaaExtD
import Derived.Maps.Keyed
import Derived.WideKeyRuns
import Derived.Test.YtbfhohpbldadbaaWEqStruct
namespace Go.Proofs.Ytbfhohpbldadbaa.P
open Go.RowKit Go.Proofs.YtbfhohpbldadbaaW.PrintWords Go.Proofs.YtbfhohpbldadbaaW.PrintLast Go.Proofs.YtbfhohpbldadbaaW.PrintMore
set_option linter.unusedVariables false
set_option linter.unusedSimpArgs false

/-! ### the map of the meters that were seen -/
def keyV (k : Int × Int) : Value := .agg #[.int .i64 k.1, .int .i64 k.2]
theorem chk130 (e : Bool) (k : Int × Int) (W : World) : (Instr.checkKey e 10000 130 (keyV k)).run Try.prog W = .ok () W := by kernel_rfl
theorem eq130 (a b : Int × Int) (W : World) : (Op.equal 130 (keyV a) (keyV b)).run Try.prog W = .ok (a.1 == b.1 && a.2 == b.2) W := by
  obtain ⟨a1, a2⟩ := a
  obtain ⟨b1, b2⟩ := b
  show (Op.equalIn (9999 + 1) 130 (.agg #[.int .i64 a1, .int .i64 a2]) (.agg #[.int .i64 b1, .int .i64 b2])).run Try.prog W = _
  have h1 : (Op.equalIn 9999 3 (.int .i64 a1) (.int .i64 b1)).run Try.prog W = .ok (a1 == b1) W := by kernel_rfl
  have h2 : (Op.equalIn 9999 3 (.int .i64 a2) (.int .i64 b2)).run Try.prog W = .ok (a2 == b2) W := by kernel_rfl
  have p1 : ∀ (x y : Int), (part 3 #[Value.int .i64 x, .int .i64 y] 0).run Try.prog W = .ok (.int .i64 x) W := fun x y => by kernel_rfl
  have p2 : ∀ (x y : Int), (part 3 #[Value.int .i64 x, .int .i64 y] 1).run Try.prog W = .ok (.int .i64 y) W := fun x y => by kernel_rfl
  exact eqA_of Try.underlying130 (by kernel_rfl) (eqf_cons (by kernel_rfl) (p1 _ _) (p1 _ _) h1 (eqf_last (by kernel_rfl) (p2 _ _) (p2 _ _) h2))
theorem ask130 (k : Int × Int) (W : World) : ∀ (es : List MapEntry) (ks : List (Int × Int)) (i : Nat), es.map (fun e => (e.key, e.val)) = ks.map (fun k => (keyV k, Value.bool true)) →
    ∃ r, (Instr.findAsking 130 (keyV k) es i).run Try.prog W = .ok r W ∧ (if ks.any (fun q => k.1 == q.1 && k.2 == q.2) then ∃ j, r = some (j, .bool true) else r = none)
  | [], [], i, _ => ⟨none, rfl, by simp⟩
  | [], _ :: _, i, h => by simp at h
  | _ :: _, [], i, h => by simp at h
  | e :: es, q :: ks, i, h => by
    simp only [List.map_cons, List.cons.injEq, Prod.mk.injEq] at h
    obtain ⟨⟨h1, h2⟩, h3⟩ := h
    obtain ⟨r, hr, hr2⟩ := ask130 k W es ks (i + 1) h3
    simp only [Instr.findAsking, Sem.run_bind, h1, eq130, Result.andThen_ok]
    cases hq : (k.1 == q.1 && k.2 == q.2)
    · refine ⟨r, by simpa using hr, ?_⟩
      simp only [List.any_cons, hq, Bool.false_or]
      exact hr2
    · refine ⟨some (i, .bool true), by simp [h2], ?_⟩
      simp [List.any_cons, hq]
def hasK (k : Int × Int) (ks : List (Int × Int)) : Bool := ks.any (fun q => k.1 == q.1 && k.2 == q.2)
theorem findKey_run (k : Int × Int) (W : World) (es : List MapEntry) (ks : List (Int × Int)) (h : es.map (fun e => (e.key, e.val)) = ks.map (fun k => (keyV k, Value.bool true))) :
    ∃ r, (Instr.findKey 130 (keyV k) es).run Try.prog W = .ok r W ∧ (if hasK k ks then ∃ j, r = some (j, .bool true) else r = none) := by
  obtain ⟨r, hr, h2⟩ := ask130 k W es ks 0 h
  refine ⟨r, ?_, h2⟩
  rw [run_findKey_eq W (by kernel_rfl)]
  exact hr
/-- The map of the meters that were seen. -/
def MapOf (W : World) (g : Nat) (ks : List (Int × Int)) : Prop := ∃ (es : Array MapEntry) (clock : Nat), W.heap[g]? = some (.map es clock) ∧ es.toList.map (fun e => (e.key, e.val)) = ks.map (fun k => (keyV k, Value.bool true))
theorem lookup_run {W : World} {g : Nat} {ks : List (Int × Int)} (hm : MapOf W g ks) (k : Int × Int) : (Instr.lookup 128 (.map (some g)) (keyV k) false).run Try.prog W = .ok (.bool (hasK k ks)) W := by
  obtain ⟨es, clock, hb, he⟩ := hm
  obtain ⟨r, hr, h2⟩ := findKey_run k W es.toList ks he
  have hz : (zeroValue 4).run Try.prog W = .ok (.bool false) W := by kernel_rfl
  simp only [Instr.lookup, Sem.run_bind, run_underlying Try.underlying128, MapKept.run_getObj_map hb, Result.andThen_ok, Sem.run_pure, chk130, hr]
  cases hk : hasK k ks
  · rw [hk] at h2
    simp at h2
    subst h2
    simp [hz]
  · rw [hk] at h2
    simp at h2
    obtain ⟨j, rfl⟩ := h2
    simp
/-- A meter that was not seen is seen now. -/
theorem update_run {W : World} {g : Nat} {ks : List (Int × Int)} (hm : MapOf W g ks) (k : Int × Int) (hn : hasK k ks = false) : ∃ o, (Instr.mapUpdate 128 (.map (some g)) (keyV k) (.bool true)).run Try.prog W = .ok () { W with heap := W.heap.setIfInBounds g o } ∧ MapOf { W with heap := W.heap.setIfInBounds g o } g (ks ++ [k]) := by
  obtain ⟨es, clock, hb, he⟩ := hm
  obtain ⟨r, hr, h2⟩ := findKey_run k W es.toList ks he
  rw [hn] at h2
  simp at h2
  subst h2
  refine ⟨.map (es.push { key := keyV k, val := .bool true, born := clock }) (clock + 1), ?_, _, _, (MapKept.heap_set hb).1, ?_⟩
  · simp only [Instr.mapUpdate, Sem.run_bind, run_underlying Try.underlying128, MapKept.run_getObj_map hb, Result.andThen_ok, chk130, hr, MapKept.run_setObj_map _ hb]
  · simp [he]
end Go.Proofs.Ytbfhohpbldadbaa.P
