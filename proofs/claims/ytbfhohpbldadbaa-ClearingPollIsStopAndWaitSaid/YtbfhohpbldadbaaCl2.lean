import Derived.Test.YtbfhohpbldadbaaCl1
namespace Go.Proofs.Ytbfhohpbldadbaa.P
open Go Go.RowKit Go.Proofs.YtbfhohpbldadbaaW.PrintWords Go.Proofs.YtbfhohpbldadbaaW.PrintLast Go.Proofs.YtbfhohpbldadbaaW.PrintMore
set_option linter.unusedVariables false
set_option linter.unusedSimpArgs false
theorem info28 : (Try.prog.info? 28).map (fun i => (i.zero, i.size, i.bytes)) = some (some (.slice none 0 0), 1, 24) := by kernel_rfl
theorem wid {n : Int} (h0 : 0 ≤ n) (h1 : n ≤ 9000000000000000000) : wrap64 n = n := by simp only [wrap64, IntKind.wrap]; omega
abbrev kL : Kd (List S39) := Kd.slice 39 k39
set_option maxHeartbeats 4000000 in
set_option maxRecDepth 100000 in
theorem clones_calls (A : Option Addr) (c : Nat) (xs : List (List S39)) (w : World) (hr : Kd.C kL w A xs.length xs) (hl : xs.length ≤ 1024) (hl2 : ∀ l ∈ xs, l.length ≤ 1024) :
    Calls Try.prog 90 #[.slice A xs.length c] w fun e w' => ∃ v', e = .returned v' ∧ Kd.R kL 28 w' w.heap.size (fun _ => True) v' xs ∧ Below w.heap.size w w' := by
  have HR := Lib.hid hr; have HL := Lib.hid hl; have HL2 := Lib.hid hl2
  clear hr hl hl2
  go_enter Try.func90, Try.ntmps90
  go_wp2_with fail
  go_loopw [3, 5, 8] (fun v3 _ i W => ∃ k : Nat, k ≤ xs.length ∧ i = .int .i64 k ∧ Kd.R kL 28 W w.heap.size (fun _ => True) v3 (xs.take k) ∧ Below w.heap.size w W) (fun _ _ i _ => xs.length - (intOf i).toNat)
  case atStart => exact ⟨0, Nat.zero_le _, rfl, Kd.R_nil _ _ _ _ _, Below.refl _ _⟩
  case round =>
    obtain ⟨k, hk, rfl, hR, hb⟩ := hrel
    have HK := Lib.hid hk; have HO := Lib.hid hR; have HB := Lib.hid hb
    clear hk hR hb
    by_cases hlt : k < xs.length
    · have HLT := Lib.hid hlt
      obtain ⟨ad, A0, k0, rfl, hat⟩ := L_cell (Kd.C_below HR.out HB.out) k hlt hlt
      obtain ⟨m, hm⟩ : ∃ m, m = xs[k]'hlt := ⟨_, rfl⟩
      replace hat : AtL wr (ad.add k) A0 k0 m := by rw [hm]; exact hat
      have HM := Lib.hid hm
      have c0 := hat.c0; have HC := Lib.hid hat.cc
      have hml : m.length ≤ 1024 := HL2.out m (by rw [hm]; exact List.getElem_mem hlt)
      have HML := Lib.hid hml
      clear hat hm hml
      go_wp2_with fail
      refine (cloneR A0 k0 m _ HC.out (by have := HML.out; omega)).mono ?_
      rintro e w2 ⟨v', rfl, ho, hb⟩
      obtain ⟨A2, k2, rfl⟩ := Kd.R_slice ho
      have HO2 := Lib.hid ho; have HB2 := Lib.hid hb
      clear ho hb c0
      go_wp2_with ((with_reducible refine gate_builtin (b := .append) (xs := #[.tmp 12, .tmp 15]) rfl ?_); at_builtin; refine Kd.R_append kL (w0 := w) w.heap.size rfl (.tmp 12) (.tmp 15) 59 28 (.slice none 0 0) 24 rfl Try.underlying59 info28 rfl (by decide) (by decide) u3 (xs.take k) m [.slice A2 m.length k2] (fun _ => True) (fun k => some k ≠ (u3 : Value).ownBlock) rfl rfl ⟨_, rfl, Kd.R_lower (Kd.R_mono (Kd.R_newR HO2.out HO.out) (fun _ h => h.2)) HB.out.size⟩ (fun _ h => ⟨trivial, h⟩) (fun _ _ => trivial) (Kd.R_below HO.out HB2.out) (bb HB.out HB2.out) (Nat.le_trans HB.out.size HB2.out.size) (by have := HL.out; have := HLT.out; rw [List.length_take]; omega) ?_; intro v3 w4 ho4 hb4 hg4 hat4)
      go_roundw
      case rel =>
        have hl := HL.out
        have hlt := HLT.out
        refine ⟨k + 1, HLT.out, (show Value.int .i64 (wrap64 ((k : Int) + 1)) = Value.int .i64 ((k + 1 : Nat) : Int) by rw [wid (by omega) (by omega)]; rfl), ?_, hb4⟩
        rw [List.take_succ_eq_append_getElem HLT.out, ← HM.out]
        exact ho4
      case measure =>
        have hl := HL.out
        have hlt := HLT.out
        rw [wid (n := (k : Int) + 1) (by omega) (by omega)]
        simp only [intOf]
        omega
    · go_wp2
      go_ret
      refine ⟨_, rfl, ?_, HB.out⟩
      have h1 := HO.out
      rwa [List.take_of_length_le (by omega)] at h1
end Go.Proofs.Ytbfhohpbldadbaa.P
