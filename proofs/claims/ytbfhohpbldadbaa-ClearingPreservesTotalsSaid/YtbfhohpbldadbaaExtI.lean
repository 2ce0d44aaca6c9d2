import Derived.Test.YtbfhohpbldadbaaExtH
import Derived.Test.YtbfhohpbldadbaaPx15
namespace Go.Proofs.Ytbfhohpbldadbaa.P
open Go.RowKit Go.Proofs.YtbfhohpbldadbaaW.PrintWords Go.Proofs.YtbfhohpbldadbaaW.PrintLast Go.Proofs.YtbfhohpbldadbaaW.PrintMore
set_option linter.unusedVariables false
set_option linter.unusedSimpArgs false
/-- The block of a cutter: its tariff's bands, its records. -/
def CBlk (w : World) (g : Nat) (v r : Value) : Prop := w.heap[g]? = some (.cells #[v, r] 100 (0, 0))
section
variable {w w' : World} {g : Nat} {v r : Value}
theorem CBlk.c0 (h : CBlk w g v r) : w.cell? ⟨g, 0, none⟩ = some v := (cell_of_row w g 0 _ 100 (0, 0) h).trans rfl
theorem CBlk.c1 (h : CBlk w g v r) : w.cell? ⟨g, 1, none⟩ = some r := (cell_of_row w g 1 _ 100 (0, 0) h).trans rfl
theorem CBlk.below (h : CBlk w g v r) (hb : Below w.heap.size w w') : CBlk w' g v r := (hb.block g (heap_lt h)).trans h
theorem CBlk.new (w : World) (v r : Value) : CBlk (w.alloc (.cells #[v, r] 100)) w.heap.size v r := heap_alloc_new w _
end
set_option maxHeartbeats 1000000 in
set_option maxRecDepth 100000 in
theorem full_calls (g : Nat) (v : Value) (A : Option Addr) (n c : Nat) (W : World) (h : CBlk W g v (.slice A n c)) :
    Calls Try.prog 55 #[.pointer (some ⟨g, 0, none⟩)] W fun e W' => e = .returned (.bool (decide (1024 < (n : Int)))) ∧ W' = W := by
  have c1 := h.c1
  clear h
  go_enter Try.func55, Try.ntmps55
  go_wp2_with fail
  go_ret
  exact ⟨by simp, rfl⟩

theorem enters98 : Enters 98 := fun _ _ => by kernel_rfl
def rateNe (r : Int) (b : S110) : Bool := b.f1 != r
set_option maxHeartbeats 1000000 in
set_option maxRecDepth 100000 in
theorem flat1_calls (g : Nat) (r : Int) (b : S110) (W : World) (h : W.cell? ⟨g, 0, none⟩ = some (.int .i64 r)) :
    Calls Try.prog 98 (#[.agg #[.int .i64 b.f0, .int .i64 b.f1]] ++ #[.pointer (some ⟨g, 0, none⟩)]) W fun e W' => e = .returned (.bool (rateNe r b)) ∧ Below W.heap.size W W' := by
  have c0 := fun o => ((below_one W o).cell (p := ⟨g, 0, none⟩) (World.block_lt_of_cell? W _ h)).trans h
  clear h
  go_enter Try.func98, Try.ntmps98
  go_wp2_with fail
  go_ret
  exact ⟨by simp [rateNe, bne], below_one _ _⟩

def flatB (bs : List S110) : Bool := !(bs.any (rateNe (rd_T110 bs 0).f1))
theorem rd0 {bs : List S110} (hn : 0 < bs.length) : (rd_T110 bs 0).f1 = bs[0].f1 := by
  have h := getD_at hn z110
  unfold rd_T110
  exact congrArg S110.f1 h
set_option maxHeartbeats 2000000 in
set_option maxRecDepth 100000 in
theorem flat_calls (g : Nat) (r : Value) (A : Option Addr) (c : Nat) (bs : List S110) (W : World) (h : CBlk W g (.slice A bs.length c) r) (hr : Kd.C k110 W A bs.length bs) (hn : 0 < bs.length) :
    Calls Try.prog 94 #[.pointer (some ⟨g, 0, none⟩)] W fun e W' => e = .returned (.bool (flatB bs)) ∧ Below W.heap.size W W' := by
  have hmf : ∀ (fn : Fn) (first cap : Array Value) (w : World), (Instr.makeFunc fn first cap).run Try.prog w = .ok (.func fn first cap) w := fun _ _ _ _ => rfl
  have c0 := h.c0
  obtain ⟨ad, rfl, hx⟩ := B_cell hr 0 hn hn
  obtain ⟨hx0, hx1⟩ := hx
  have HR := Lib.hid hr
  have HC := Lib.hid h
  have HN := Lib.hid hn
  have hnI : (0 : Int) < (bs.length : Int) := by omega
  clear hr h
  have hx1' : W.cell? ⟨ad.block, ad.off + 1, none⟩ = some (.int .i64 bs[0].f1) := hx1
  clear hx0 hx1
  have fc : ∀ o, (W.alloc o).cell? ⟨g, 0, none⟩ = some (.slice (some ad) bs.length c) := fun o => (HC.out.below (below_one W o)).c0
  go_enter Try.func94, Try.ntmps94
  go_wp2_with fail
  clear fc
  refine (containsB 98 #[.pointer (some ⟨W.heap.size, 0, none⟩)] enters98 (some ad) c bs (rateNe bs[0].f1) _ (Kd.C_below HR.out (below_one _ _)) (fun x _ W2 hW => flat1_calls W.heap.size bs[0].f1 x W2 ((hW.cell (p := ⟨W.heap.size, 0, none⟩) (by simp)).trans ((cell_of_row _ _ 0 _ _ _ (heap_alloc_new W _)).trans rfl)))).mono ?_
  rintro e w3 ⟨rfl, hb⟩
  go_wp2_with fail
  go_ret
  exact ⟨by rw [flatB, rd0 hn]; rfl, bb (below_one _ _) hb⟩
end Go.Proofs.Ytbfhohpbldadbaa.P
