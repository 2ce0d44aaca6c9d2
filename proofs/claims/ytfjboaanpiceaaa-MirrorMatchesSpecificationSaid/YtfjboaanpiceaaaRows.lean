/-
  No cell of these rows narrows 'for every input' (looked for: loops, veiled, ifaces, maps, wideKeys, modest, calm, conditions, laid).
  DERIVED. THE GIVEN ROWS OF THIS SEAT. 7 by the template 'for every input the law returns true; each argument reads behind the call as it read before'; 0 by the template 'total and deterministic' (their statements: YtfjboaanpiceaaaTotals.lean).
  GIVEN WITH THE SEED: the statements are not yours to turn. If you find one false, say at which input.
  Laid BY PROGRAM, IN A SANDBOX (cutbox-rows.mjs): the forced cells as the released guide's own fill.sh prints them over the translation 58f3265f6cd6b828… (all of the seat's roots in one cut). By AI agents, Wed Nov 11 2026. No macro, syntax, notation, axiom, sorry.
-/
import Derived.Test.YtfjboaanpiceaaaChecked
import GoSem.Claim
import GoSem.ClaimJoined
import GoSem.ClaimMapViews
import Derived.JoinedTies
import Derived.KernelRfl
namespace Go.Proofs.Ytfjboaanpiceaaa
/- THE CELL 'sum', in the pinned program and in every row, IS THE sha256 OF THE DUMP (.gsa) THAT YtfjboaanpiceaaaProg.lean LOADS. Nothing in Lean hashes anything: it is a label: what it is worth is what the hold of that sum in a sandbox is worth. -/
noncomputable def Try.pinned : Pinned := { name := "ytfjboaanpiceaaa", sum := "58f3265f6cd6b8283a525606b572715fe3c6ee717aa525d19e224af7a00e6822", checked := Try.checked }
namespace Rows
def none {H : Type} : Left H := { results := [], args := [] }

/-- 'crossbarlaw33.MirrorMatchesSpecification': WHATEVER THE INPUT: true; the input reads as it did. -/
def mirrorMatchesSpecificationSpec : ChangeSpec := { name := "mirrorMatchesSpecification", fn := fun _ => fun
  | [d1, d2] => { results := [.lit (.bool true)], args := [d1, d2] }
  | _ => none }
def mirrorMatchesSpecificationRow : OpenClaim := { program := "ytfjboaanpiceaaa", sum := "58f3265f6cd6b8283a525606b572715fe3c6ee717aa525d19e224af7a00e6822", func := "crossbar/crossbarlaw33.MirrorMatchesSpecification", spec := "mirrorMatchesSpecification", unfollowed := true, recurses := true, apart := false }
def MirrorMatchesSpecificationSaid : Prop := mirrorMatchesSpecificationRow.holds Try.pinned (OpenSpec.ofChange mirrorMatchesSpecificationSpec)

/-- ITS FALSE NEIGHBOUR: 'it returns false'. Refute it at one input. -/
def mirrorMatchesSpecificationWrong : ChangeSpec := { name := "mirrorMatchesSpecification", fn := fun _ => fun
  | [d1, d2] => { results := [.lit (.bool false)], args := [d1, d2] }
  | _ => none }
def MirrorMatchesSpecificationWrongFalsely : Prop := mirrorMatchesSpecificationRow.holds Try.pinned (OpenSpec.ofChange mirrorMatchesSpecificationWrong)

/-- 'crossbarlaw33.MirrorSurvivesSingleFailures': WHATEVER THE INPUT: true; the input reads as it did. -/
def mirrorSurvivesSingleFailuresSpec : ChangeSpec := { name := "mirrorSurvivesSingleFailures", fn := fun _ => fun
  | [d] => { results := [.lit (.bool true)], args := [d] }
  | _ => none }
def mirrorSurvivesSingleFailuresRow : OpenClaim := { program := "ytfjboaanpiceaaa", sum := "58f3265f6cd6b8283a525606b572715fe3c6ee717aa525d19e224af7a00e6822", func := "crossbar/crossbarlaw33.MirrorSurvivesSingleFailures", spec := "mirrorSurvivesSingleFailures", unfollowed := true, recurses := true, apart := false }
def MirrorSurvivesSingleFailuresSaid : Prop := mirrorSurvivesSingleFailuresRow.holds Try.pinned (OpenSpec.ofChange mirrorSurvivesSingleFailuresSpec)

/-- ITS FALSE NEIGHBOUR: 'it returns false'. Refute it at one input. -/
def mirrorSurvivesSingleFailuresWrong : ChangeSpec := { name := "mirrorSurvivesSingleFailures", fn := fun _ => fun
  | [d] => { results := [.lit (.bool false)], args := [d] }
  | _ => none }
def MirrorSurvivesSingleFailuresWrongFalsely : Prop := mirrorSurvivesSingleFailuresRow.holds Try.pinned (OpenSpec.ofChange mirrorSurvivesSingleFailuresWrong)

/-- 'crossbarlaw33.MirrorDoneMeansMirrored': WHATEVER THE INPUT: true; the input reads as it did. -/
def mirrorDoneMeansMirroredSpec : ChangeSpec := { name := "mirrorDoneMeansMirrored", fn := fun _ => fun
  | [d] => { results := [.lit (.bool true)], args := [d] }
  | _ => none }
def mirrorDoneMeansMirroredRow : OpenClaim := { program := "ytfjboaanpiceaaa", sum := "58f3265f6cd6b8283a525606b572715fe3c6ee717aa525d19e224af7a00e6822", func := "crossbar/crossbarlaw33.MirrorDoneMeansMirrored", spec := "mirrorDoneMeansMirrored", unfollowed := true, recurses := true, apart := false }
def MirrorDoneMeansMirroredSaid : Prop := mirrorDoneMeansMirroredRow.holds Try.pinned (OpenSpec.ofChange mirrorDoneMeansMirroredSpec)

/-- ITS FALSE NEIGHBOUR: 'it returns false'. Refute it at one input. -/
def mirrorDoneMeansMirroredWrong : ChangeSpec := { name := "mirrorDoneMeansMirrored", fn := fun _ => fun
  | [d] => { results := [.lit (.bool false)], args := [d] }
  | _ => none }
def MirrorDoneMeansMirroredWrongFalsely : Prop := mirrorDoneMeansMirroredRow.holds Try.pinned (OpenSpec.ofChange mirrorDoneMeansMirroredWrong)

/-- 'crossbarlaw33.MirrorCrashKeepsEffects': WHATEVER THE INPUT: true; the input reads as it did. -/
def mirrorCrashKeepsEffectsSpec : ChangeSpec := { name := "mirrorCrashKeepsEffects", fn := fun _ => fun
  | [d1, d2] => { results := [.lit (.bool true)], args := [d1, d2] }
  | _ => none }
def mirrorCrashKeepsEffectsRow : OpenClaim := { program := "ytfjboaanpiceaaa", sum := "58f3265f6cd6b8283a525606b572715fe3c6ee717aa525d19e224af7a00e6822", func := "crossbar/crossbarlaw33.MirrorCrashKeepsEffects", spec := "mirrorCrashKeepsEffects", unfollowed := true, recurses := true, apart := false }
def MirrorCrashKeepsEffectsSaid : Prop := mirrorCrashKeepsEffectsRow.holds Try.pinned (OpenSpec.ofChange mirrorCrashKeepsEffectsSpec)

/-- ITS FALSE NEIGHBOUR: 'it returns false'. Refute it at one input. -/
def mirrorCrashKeepsEffectsWrong : ChangeSpec := { name := "mirrorCrashKeepsEffects", fn := fun _ => fun
  | [d1, d2] => { results := [.lit (.bool false)], args := [d1, d2] }
  | _ => none }
def MirrorCrashKeepsEffectsWrongFalsely : Prop := mirrorCrashKeepsEffectsRow.holds Try.pinned (OpenSpec.ofChange mirrorCrashKeepsEffectsWrong)

/-- 'crossbarlaw33.MirrorRestoreCopiesState': WHATEVER THE INPUT: true; the input reads as it did. -/
def mirrorRestoreCopiesStateSpec : ChangeSpec := { name := "mirrorRestoreCopiesState", fn := fun _ => fun
  | [d1, d2] => { results := [.lit (.bool true)], args := [d1, d2] }
  | _ => none }
def mirrorRestoreCopiesStateRow : OpenClaim := { program := "ytfjboaanpiceaaa", sum := "58f3265f6cd6b8283a525606b572715fe3c6ee717aa525d19e224af7a00e6822", func := "crossbar/crossbarlaw33.MirrorRestoreCopiesState", spec := "mirrorRestoreCopiesState", unfollowed := true, recurses := true, apart := false }
def MirrorRestoreCopiesStateSaid : Prop := mirrorRestoreCopiesStateRow.holds Try.pinned (OpenSpec.ofChange mirrorRestoreCopiesStateSpec)

/-- ITS FALSE NEIGHBOUR: 'it returns false'. Refute it at one input. -/
def mirrorRestoreCopiesStateWrong : ChangeSpec := { name := "mirrorRestoreCopiesState", fn := fun _ => fun
  | [d1, d2] => { results := [.lit (.bool false)], args := [d1, d2] }
  | _ => none }
def MirrorRestoreCopiesStateWrongFalsely : Prop := mirrorRestoreCopiesStateRow.holds Try.pinned (OpenSpec.ofChange mirrorRestoreCopiesStateWrong)

/-- 'crossbarlaw33.MirrorRepeatedInputHasSameEffect': WHATEVER THE INPUT: true; the input reads as it did. -/
def mirrorRepeatedInputHasSameEffectSpec : ChangeSpec := { name := "mirrorRepeatedInputHasSameEffect", fn := fun _ => fun
  | [d] => { results := [.lit (.bool true)], args := [d] }
  | _ => none }
def mirrorRepeatedInputHasSameEffectRow : OpenClaim := { program := "ytfjboaanpiceaaa", sum := "58f3265f6cd6b8283a525606b572715fe3c6ee717aa525d19e224af7a00e6822", func := "crossbar/crossbarlaw33.MirrorRepeatedInputHasSameEffect", spec := "mirrorRepeatedInputHasSameEffect", unfollowed := true, recurses := true, apart := false }
def MirrorRepeatedInputHasSameEffectSaid : Prop := mirrorRepeatedInputHasSameEffectRow.holds Try.pinned (OpenSpec.ofChange mirrorRepeatedInputHasSameEffectSpec)

/-- ITS FALSE NEIGHBOUR: 'it returns false'. Refute it at one input. -/
def mirrorRepeatedInputHasSameEffectWrong : ChangeSpec := { name := "mirrorRepeatedInputHasSameEffect", fn := fun _ => fun
  | [d] => { results := [.lit (.bool false)], args := [d] }
  | _ => none }
def MirrorRepeatedInputHasSameEffectWrongFalsely : Prop := mirrorRepeatedInputHasSameEffectRow.holds Try.pinned (OpenSpec.ofChange mirrorRepeatedInputHasSameEffectWrong)

/-- 'crossbarlaw33.MirrorOutOfService': WHATEVER THE INPUT: true; the input reads as it did. -/
def mirrorOutOfServiceSpec : ChangeSpec := { name := "mirrorOutOfService", fn := fun _ => fun
  | [d1, d2] => { results := [.lit (.bool true)], args := [d1, d2] }
  | _ => none }
def mirrorOutOfServiceRow : OpenClaim := { program := "ytfjboaanpiceaaa", sum := "58f3265f6cd6b8283a525606b572715fe3c6ee717aa525d19e224af7a00e6822", func := "crossbar/crossbarlaw33.MirrorOutOfService", spec := "mirrorOutOfService", unfollowed := true, recurses := true, apart := false }
def MirrorOutOfServiceSaid : Prop := mirrorOutOfServiceRow.holds Try.pinned (OpenSpec.ofChange mirrorOutOfServiceSpec)

/-- ITS FALSE NEIGHBOUR: 'it returns false'. Refute it at one input. -/
def mirrorOutOfServiceWrong : ChangeSpec := { name := "mirrorOutOfService", fn := fun _ => fun
  | [d1, d2] => { results := [.lit (.bool false)], args := [d1, d2] }
  | _ => none }
def MirrorOutOfServiceWrongFalsely : Prop := mirrorOutOfServiceRow.holds Try.pinned (OpenSpec.ofChange mirrorOutOfServiceWrong)

/- THE SECOND FORM. 'bulk': how many values and letters a reading holds, each counted each time it is reached (what is shared counts as often as it is met; a slice's spare places count too). A statement '..UptoSaid' is the law's where the arguments, and the package variables that the reading takes, are together of bulk at most 1048576: NARROWER than '..Said'. Prove '..Said' where nothing that the law and all that it calls make is longer than what came in: it says more and counts as full. Else prove '..UptoSaid'. A law counts once. -/
mutual
def uptoBulk {H : Type} : DataW H → Nat
  | .lit (.string bytes) => bytes.length + 1
  | .lit _ => 1
  | .nil => 1
  | .ptr d => uptoBulk d + 1
  | .slice elems spare => uptoBulkAll elems + uptoBulkAll spare + 1
  | .agg parts => uptoBulkAll parts + 1
  | .iface _ d => uptoBulk d + 1
  | .map entries => uptoBulkEntries entries + 1
  | .held _ => 1
def uptoBulkAll {H : Type} : List (DataW H) → Nat
  | [] => 0
  | d :: r => uptoBulk d + uptoBulkAll r
def uptoBulkEntries {H : Type} : List (Lit × DataW H) → Nat
  | [] => 0
  | x :: r => uptoBulkEntry x + uptoBulkEntries r
def uptoBulkEntry {H : Type} : Lit × DataW H → Nat
  | (.string bytes, d) => bytes.length + uptoBulk d + 1
  | (_, d) => uptoBulk d + 1
 end
def uptoSmall : (H : Type) → List (DataW H) → Bool := fun _ ds => decide (uptoBulkAll ds ≤ 1048576)
def OpenSpec.upto (s : _root_.Go.ChangeSpec) : _root_.Go.OpenSpec := { _root_.Go.OpenSpec.ofChange s with cond := some uptoSmall }

/-- 'crossbarlaw33.MirrorMatchesSpecification', WHERE WHAT IT READS IS OF BULK AT MOST 1048576: true; the input reads as it did. -/
def mirrorMatchesSpecificationUptoRow : OpenClaim := { program := "ytfjboaanpiceaaa", sum := "58f3265f6cd6b8283a525606b572715fe3c6ee717aa525d19e224af7a00e6822", func := "crossbar/crossbarlaw33.MirrorMatchesSpecification", spec := "mirrorMatchesSpecification", unfollowed := true, recurses := true, apart := false, narrowed := true }
def MirrorMatchesSpecificationUptoSaid : Prop := mirrorMatchesSpecificationUptoRow.holds Try.pinned (OpenSpec.upto mirrorMatchesSpecificationSpec)

/-- 'crossbarlaw33.MirrorSurvivesSingleFailures', WHERE WHAT IT READS IS OF BULK AT MOST 1048576: true; the input reads as it did. -/
def mirrorSurvivesSingleFailuresUptoRow : OpenClaim := { program := "ytfjboaanpiceaaa", sum := "58f3265f6cd6b8283a525606b572715fe3c6ee717aa525d19e224af7a00e6822", func := "crossbar/crossbarlaw33.MirrorSurvivesSingleFailures", spec := "mirrorSurvivesSingleFailures", unfollowed := true, recurses := true, apart := false, narrowed := true }
def MirrorSurvivesSingleFailuresUptoSaid : Prop := mirrorSurvivesSingleFailuresUptoRow.holds Try.pinned (OpenSpec.upto mirrorSurvivesSingleFailuresSpec)

/-- 'crossbarlaw33.MirrorDoneMeansMirrored', WHERE WHAT IT READS IS OF BULK AT MOST 1048576: true; the input reads as it did. -/
def mirrorDoneMeansMirroredUptoRow : OpenClaim := { program := "ytfjboaanpiceaaa", sum := "58f3265f6cd6b8283a525606b572715fe3c6ee717aa525d19e224af7a00e6822", func := "crossbar/crossbarlaw33.MirrorDoneMeansMirrored", spec := "mirrorDoneMeansMirrored", unfollowed := true, recurses := true, apart := false, narrowed := true }
def MirrorDoneMeansMirroredUptoSaid : Prop := mirrorDoneMeansMirroredUptoRow.holds Try.pinned (OpenSpec.upto mirrorDoneMeansMirroredSpec)

/-- 'crossbarlaw33.MirrorCrashKeepsEffects', WHERE WHAT IT READS IS OF BULK AT MOST 1048576: true; the input reads as it did. -/
def mirrorCrashKeepsEffectsUptoRow : OpenClaim := { program := "ytfjboaanpiceaaa", sum := "58f3265f6cd6b8283a525606b572715fe3c6ee717aa525d19e224af7a00e6822", func := "crossbar/crossbarlaw33.MirrorCrashKeepsEffects", spec := "mirrorCrashKeepsEffects", unfollowed := true, recurses := true, apart := false, narrowed := true }
def MirrorCrashKeepsEffectsUptoSaid : Prop := mirrorCrashKeepsEffectsUptoRow.holds Try.pinned (OpenSpec.upto mirrorCrashKeepsEffectsSpec)

/-- 'crossbarlaw33.MirrorRestoreCopiesState', WHERE WHAT IT READS IS OF BULK AT MOST 1048576: true; the input reads as it did. -/
def mirrorRestoreCopiesStateUptoRow : OpenClaim := { program := "ytfjboaanpiceaaa", sum := "58f3265f6cd6b8283a525606b572715fe3c6ee717aa525d19e224af7a00e6822", func := "crossbar/crossbarlaw33.MirrorRestoreCopiesState", spec := "mirrorRestoreCopiesState", unfollowed := true, recurses := true, apart := false, narrowed := true }
def MirrorRestoreCopiesStateUptoSaid : Prop := mirrorRestoreCopiesStateUptoRow.holds Try.pinned (OpenSpec.upto mirrorRestoreCopiesStateSpec)

/-- 'crossbarlaw33.MirrorRepeatedInputHasSameEffect', WHERE WHAT IT READS IS OF BULK AT MOST 1048576: true; the input reads as it did. -/
def mirrorRepeatedInputHasSameEffectUptoRow : OpenClaim := { program := "ytfjboaanpiceaaa", sum := "58f3265f6cd6b8283a525606b572715fe3c6ee717aa525d19e224af7a00e6822", func := "crossbar/crossbarlaw33.MirrorRepeatedInputHasSameEffect", spec := "mirrorRepeatedInputHasSameEffect", unfollowed := true, recurses := true, apart := false, narrowed := true }
def MirrorRepeatedInputHasSameEffectUptoSaid : Prop := mirrorRepeatedInputHasSameEffectUptoRow.holds Try.pinned (OpenSpec.upto mirrorRepeatedInputHasSameEffectSpec)

/-- 'crossbarlaw33.MirrorOutOfService', WHERE WHAT IT READS IS OF BULK AT MOST 1048576: true; the input reads as it did. -/
def mirrorOutOfServiceUptoRow : OpenClaim := { program := "ytfjboaanpiceaaa", sum := "58f3265f6cd6b8283a525606b572715fe3c6ee717aa525d19e224af7a00e6822", func := "crossbar/crossbarlaw33.MirrorOutOfService", spec := "mirrorOutOfService", unfollowed := true, recurses := true, apart := false, narrowed := true }
def MirrorOutOfServiceUptoSaid : Prop := mirrorOutOfServiceUptoRow.holds Try.pinned (OpenSpec.upto mirrorOutOfServiceSpec)

end Rows
end Go.Proofs.Ytfjboaanpiceaaa
