import Derived.Test.YtbfhohpbldadbaaExtI
namespace Go.Proofs.Ytbfhohpbldadbaa.P
open Go.RowKit Go.Proofs.YtbfhohpbldadbaaW.PrintWords Go.Proofs.YtbfhohpbldadbaaW.PrintLast Go.Proofs.YtbfhohpbldadbaaW.PrintMore
set_option linter.unusedVariables false
set_option linter.unusedSimpArgs false
/-- A box of one cell. -/
def Bx (w : World) (g t : Nat) (v : Value) : Prop := w.heap[g]? = some (.cells #[v] t (0, 0))
section
variable {w w' : World} {g t : Nat} {v : Value}
theorem Bx.c0 (h : Bx w g t v) : w.cell? ⟨g, 0, none⟩ = some v := (cell_of_row w g 0 _ t (0, 0) h).trans rfl
theorem Bx.below (h : Bx w g t v) (hb : Below w.heap.size w w') : Bx w' g t v := (hb.block g (heap_lt h)).trans h
theorem Bx.new (w : World) (t : Nat) (v : Value) : Bx (w.alloc (.cells #[v] t)) w.heap.size t v := heap_alloc_new w _
end
/-- What a call of a predicate over meters answers, in every world behind w. -/
def PredAll (F : Nat) (lb : Array Value) (w : World) (p : S33 → Bool) : Prop :=
  ∀ m W, Below w.heap.size w W → Calls Try.prog F (#[.agg #[.int .i64 m.f0, .int .i64 m.f1, .int .i64 m.f2, .string m.f3, .int .i64 m.f4]] ++ lb) W fun e W' => e = .returned (.bool (p m)) ∧ Below W.heap.size W W'
theorem PredAll.pred {F : Nat} {lb : Array Value} {w : World} {p : S33 → Bool} (h : PredAll F lb w p) (xs : List S33) : Pred F lb w xs p := fun m _ W hW => h m W hW
theorem PredAll.below {F : Nat} {lb : Array Value} {w w' : World} {p : S33 → Bool} (h : PredAll F lb w p) (hb : Below w.heap.size w w') : PredAll F lb w' p := fun m W hW => h m W (bb hb hW)

def lateP (p : S33 → Bool) (now : Int) (m : S33) : Bool := p m && decide (now < m.f4)
theorem enters80 : Enters 80 := fun _ _ => by kernel_rfl
set_option maxHeartbeats 2000000 in
set_option maxRecDepth 100000 in
theorem late_calls (F : Nat) (lb : Array Value) (eg : Enters F) (gF gN : Nat) (now : Int) (p : S33 → Bool) (m : S33) (W : World) (hF : Bx W gF 91 (.func (.func F) #[] lb)) (hN : Bx W gN 3 (.int .i64 now)) (hp : PredAll F lb W p) :
    Calls Try.prog 80 (#[.agg #[.int .i64 m.f0, .int .i64 m.f1, .int .i64 m.f2, .string m.f3, .int .i64 m.f4]] ++ #[.pointer (some ⟨gF, 0, none⟩), .pointer (some ⟨gN, 0, none⟩)]) W fun e W' => e = .returned (.bool (lateP p now m)) ∧ Below W.heap.size W W' := by
  have q0 := fun o => (hF.below (below_one W o)).c0
  have q1 := fun o => (hN.below (below_one W o)).c0
  have HN := Lib.hid hN
  have HP := Lib.hid hp
  have HX := Lib.hid (MBlk.new W m)
  clear hF hN hp
  unfold Enters at eg
  have x0 := HX.out.c0; have x1 := HX.out.c1; have x2 := HX.out.c2; have x3 := HX.out.c3; have x4 := HX.out.c4
  go_enter Try.func80, Try.ntmps80
  go_wp2_with fail
  refine (HP.out m _ (below_one _ _)).mono ?_
  rintro e w3 ⟨rfl, hb⟩
  replace HX := Lib.hid (HX.out.below hb)
  clear x0 x1 x2 x3 x4 q0 q1
  have x4 := HX.out.c4
  have q1 := ((HN.out.below (below_one W _)).below hb).c0
  replace hb := Lib.hid (bb (below_one _ _) hb)
  cases hq : p m
  · go_wp2_with fail
    go_ret
    exact ⟨by simp [lateP, hq], hb.out⟩
  · go_wp2_with fail
    go_ret
    exact ⟨by simp [lateP, hq], hb.out⟩
theorem C1I (W : World) (x : Int) : Kd.C (Kd.int .i64) (W.alloc (.cells #[.int .i64 x] 3)) (some ⟨W.heap.size, 0, none⟩) [x].length [x] := by
  refine ⟨rfl, by simp, fun _ => ⟨_, rfl, fun j p hj => ?_⟩⟩
  have h0 := heap_alloc_new W (.cells #[.int .i64 x] 3)
  match j, hj with
  | 0, hj =>
    obtain rfl : x = p := by simpa using hj
    refine ⟨[.int .i64 x], rfl, rfl, fun i u hi => ?_⟩
    match i, hi with
    | 0, hi =>
      obtain rfl : Value.int .i64 x = u := by simpa using hi
      exact (cell_of_row _ _ 0 _ 3 (0, 0) h0).trans rfl
    | (n + 1), hi => simp at hi
  | (n + 1), hj => simp at hj
def beginF (xs : List S33) (now : Int) (p : S33 → Bool) (chk : Int) : Int := if validB xs && !(oddT now) && !(xs.any (lateP p now)) then chk else 1
def BeginPost (err : Int) (v : Value) (w : World) (e : Ending) (w' : World) : Prop :=
  Below w.heap.size w w' ∧ ((err ≠ 0 ∧ e = .returned (.tuple #[.pointer none, .int .i64 err])) ∨ (err = 0 ∧ ∃ g, w.heap.size ≤ g ∧ e = .returned (.tuple #[.pointer (some ⟨g, 0, none⟩), .int .i64 0]) ∧ CBlk w' g v (.slice none 0 0)))
set_option maxHeartbeats 4000000 in
set_option maxRecDepth 100000 in
theorem begin_calls (F : Nat) (lb : Array Value) (eg : Enters F) (A : Option Addr) (c : Nat) (xs : List S33) (A1 : Option Addr) (c1 : Nat) (bs : List S110) (now : Int) (p : S33 → Bool) (k : Nat) (chk : Int) (w : World)
    (hr : Kd.C k33 w A xs.length xs) (hr1 : Kd.C k110 w A1 bs.length bs) (hc1 : bs.length ≤ c1) (hk : tariff_Check.f k bs = some chk) (hp : PredAll F lb w p) :
    Calls Try.prog 51 #[.slice A xs.length c, .agg #[.slice A1 bs.length c1], .int .i64 now, .func (.func F) #[] lb] w (BeginPost (beginF xs now p chk) (.slice A1 bs.length c1) w) := by
  have hmf : ∀ (fn : Fn) (first cap : Array Value) (w : World), (Instr.makeFunc fn first cap).run Try.prog w = .ok (.func fn first cap) w := fun _ _ _ _ => rfl
  obtain ⟨err, herr⟩ : ∃ err, err = beginF xs now p chk := ⟨_, rfl⟩
  rw [← herr]
  have HE := Lib.hid herr
  have HR := Lib.hid hr; have HR1 := Lib.hid hr1; have HC1 := Lib.hid hc1; have HK := Lib.hid hk; have HP := Lib.hid hp
  have EG := Lib.hid eg
  clear herr hr hr1 hc1 hk hp eg
  go_enter Try.func51, Try.ntmps51
  go_wp2_with fail
  obtain ⟨w1, hw1⟩ : ∃ w1, w1 = ((w.alloc (.cells #[.slice A1 bs.length c1] 25)).alloc (.cells #[.int .i64 now] 3)).alloc (.cells #[.func (.func F) #[] lb] 91) := ⟨_, rfl⟩
  rw [← hw1]
  have B1 : Below w.heap.size w w1 := by rw [hw1]; exact al (al (below_one _ _) _) _
  have T1 : Bx w1 w.heap.size 25 (.slice A1 bs.length c1) := by rw [hw1]; exact ((Bx.new w 25 _).below (below_one _ _)).below (below_one _ _)
  have N1 : Bx w1 (w.heap.size + 1) 3 (.int .i64 now) := by
    rw [hw1]; have h := (Bx.new (w.alloc (.cells #[.slice A1 bs.length c1] 25)) 3 (.int .i64 now)).below (below_one _ (.cells #[.func (.func F) #[] lb] 91))
    rwa [World.size_alloc] at h
  have F1 : Bx w1 (w.heap.size + 2) 91 (.func (.func F) #[] lb) := by
    rw [hw1]; have h := Bx.new ((w.alloc (.cells #[.slice A1 bs.length c1] 25)).alloc (.cells #[.int .i64 now] 3)) 91 (.func (.func F) #[] lb)
    rwa [World.size_alloc, World.size_alloc] at h
  have HB := Lib.hid B1; have HT := Lib.hid T1; have HN := Lib.hid N1; have HF := Lib.hid F1
  clear B1 T1 N1 F1 hw1
  refine (valid_calls A c xs _ (Kd.C_below HR.out HB.out)).mono ?_
  rintro e w2 ⟨rfl, hb⟩
  have hb' := Lib.hid hb
  replace HB := Lib.hid (bb HB.out hb)
  replace HT := Lib.hid (HT.out.below hb)
  replace HN := Lib.hid (HN.out.below hb)
  replace HF := Lib.hid (HF.out.below hb)
  clear hb hb'
  cases hv : validB xs
  · go_wp2_with fail
    go_ret2
    have he : err = 1 := by rw [HE.out]; simp [beginF, hv]
    exact ⟨HB.out, .inl ⟨by rw [he]; decide, by rw [he]; rfl⟩⟩
  · have q1 := HN.out.c0
    go_wp2_with fail
    refine (inTime_calls (some ⟨w2.heap.size, 0, none⟩) 1 [now] _ (C1I w2 now)).mono ?_
    rintro e w3 ⟨rfl, hb⟩
    clear q1
    replace hb := bb (below_one _ _) hb
    replace HB := Lib.hid (bb HB.out hb)
    replace HT := Lib.hid (HT.out.below hb)
    replace HN := Lib.hid (HN.out.below hb)
    replace HF := Lib.hid (HF.out.below hb)
    clear hb
    have ho : [now].any oddT = oddT now := by simp
    rw [ho]
    clear ho
    cases ht : oddT now
    · go_wp2_with fail
      refine (containsM 80 #[.pointer (some ⟨w.heap.size + 2, 0, none⟩), .pointer (some ⟨w.heap.size + 1, 0, none⟩)] enters80 A c xs (lateP p now) _ (Kd.C_below HR.out HB.out) (fun m _ W hW => late_calls F lb EG.out (w.heap.size + 2) (w.heap.size + 1) now p m W (HF.out.below hW) (HN.out.below hW) (HP.out.below (bb HB.out hW)))).mono ?_
      rintro e w4 ⟨rfl, hb⟩
      replace HB := Lib.hid (bb HB.out hb)
      replace HT := Lib.hid (HT.out.below hb)
      clear hb HN HF
      cases ha : xs.any (lateP p now)
      · have q0 := HT.out.c0
        go_wp2_with fail
        refine (tariff_Check.calls k A1 c1 bs chk _ (Kd.C_below HR1.out HB.out) HC1.out HK.out).mono ?_
        rintro e w5 ⟨rfl, hb⟩
        replace HB := Lib.hid (bb HB.out hb)
        replace HT := Lib.hid (HT.out.below hb)
        clear hb q0
        have q0 := HT.out.c0
        have he : err = chk := by rw [HE.out]; simp [beginF, hv, ht, ha]
        subst he
        clear HE HK
        cases hz : (err != 0)
        · obtain rfl : err = 0 := by simpa using hz
          go_wp2_with fail
          go_ret2
          exact ⟨al HB.out _, .inr ⟨rfl, w5.heap.size, HB.out.size, rfl, CBlk.new _ _ _⟩⟩
        · go_wp2_with fail
          go_ret2
          exact ⟨HB.out, .inl ⟨by simpa using hz, rfl⟩⟩
      · go_wp2_with fail
        go_ret2
        have he : err = 1 := by rw [HE.out]; simp [beginF, ha]
        exact ⟨HB.out, .inl ⟨by rw [he]; decide, by rw [he]; rfl⟩⟩
    · go_wp2_with fail
      go_ret2
      have he : err = 1 := by rw [HE.out]; simp [beginF, ht]
      exact ⟨HB.out, .inl ⟨by rw [he]; decide, by rw [he]; rfl⟩⟩
end Go.Proofs.Ytbfhohpbldadbaa.P
