/-
  No cell of these rows narrows 'for every input' (looked for: loops, veiled, ifaces, maps, wideKeys, modest, calm, conditions, laid).
  DERIVED. THE GIVEN ROWS OF THIS SEAT. 11 by the template 'for every input the law returns true; each argument reads behind the call as it read before'; 0 by the template 'total and deterministic' (their statements: YtkfllkmhbkmepaaTotals.lean).
  GIVEN WITH THE SEED: the statements are not yours to turn. If you find one false, say at which input.
  Laid BY PROGRAM, IN A SANDBOX (cutbox-rows.mjs): the forced cells as the released guide's own fill.sh prints them over the translation 96699fbe74be4c19… (all of the seat's roots in one cut). By AI agents, Wed Nov 11 2026. No macro, syntax, notation, axiom, sorry.
-/
import Derived.Test.YtkfllkmhbkmepaaChecked
import GoSem.Claim
import GoSem.ClaimJoined
import GoSem.ClaimMapViews
import Derived.JoinedTies
import Derived.KernelRfl
namespace Go.Proofs.Ytkfllkmhbkmepaa
/- THE CELL 'sum', in the pinned program and in every row, IS THE sha256 OF THE DUMP (.gsa) THAT YtkfllkmhbkmepaaProg.lean LOADS. Nothing in Lean hashes anything: it is a label: what it is worth is what the hold of that sum in a sandbox is worth. -/
noncomputable def Try.pinned : Pinned := { name := "ytkfllkmhbkmepaa", sum := "96699fbe74be4c198b5b599e6a0b23e7ce724067023755535ad5d016e31d93d3", checked := Try.checked }
namespace Rows
def none {H : Type} : Left H := { results := [], args := [] }

/-- 'laws.FnExactIsValidSystem': WHATEVER THE INPUT: true; the input reads as it did. -/
def fnExactIsValidSystemSpec : ChangeSpec := { name := "fnExactIsValidSystem", fn := fun _ => fun
  | [d] => { results := [.lit (.bool true)], args := [d] }
  | _ => none }
def fnExactIsValidSystemRow : OpenClaim := { program := "ytkfllkmhbkmepaa", sum := "96699fbe74be4c198b5b599e6a0b23e7ce724067023755535ad5d016e31d93d3", func := "loop.example/g00515/laws.FnExactIsValidSystem", spec := "fnExactIsValidSystem", unfollowed := true, recurses := true, apart := false }
def FnExactIsValidSystemSaid : Prop := fnExactIsValidSystemRow.holds Try.pinned (OpenSpec.ofChange fnExactIsValidSystemSpec)

/-- ITS FALSE NEIGHBOUR: 'it returns false'. Refute it at one input. -/
def fnExactIsValidSystemWrong : ChangeSpec := { name := "fnExactIsValidSystem", fn := fun _ => fun
  | [d] => { results := [.lit (.bool false)], args := [d] }
  | _ => none }
def FnExactIsValidSystemWrongFalsely : Prop := fnExactIsValidSystemRow.holds Try.pinned (OpenSpec.ofChange fnExactIsValidSystemWrong)

/-- 'laws.FnExactIsValidSum': WHATEVER THE INPUT: true; the input reads as it did. -/
def fnExactIsValidSumSpec : ChangeSpec := { name := "fnExactIsValidSum", fn := fun _ => fun
  | [d] => { results := [.lit (.bool true)], args := [d] }
  | _ => none }
def fnExactIsValidSumRow : OpenClaim := { program := "ytkfllkmhbkmepaa", sum := "96699fbe74be4c198b5b599e6a0b23e7ce724067023755535ad5d016e31d93d3", func := "loop.example/g00515/laws.FnExactIsValidSum", spec := "fnExactIsValidSum", apart := false }
def FnExactIsValidSumSaid : Prop := fnExactIsValidSumRow.holds Try.pinned (OpenSpec.ofChange fnExactIsValidSumSpec)

/-- ITS FALSE NEIGHBOUR: 'it returns false'. Refute it at one input. -/
def fnExactIsValidSumWrong : ChangeSpec := { name := "fnExactIsValidSum", fn := fun _ => fun
  | [d] => { results := [.lit (.bool false)], args := [d] }
  | _ => none }
def FnExactIsValidSumWrongFalsely : Prop := fnExactIsValidSumRow.holds Try.pinned (OpenSpec.ofChange fnExactIsValidSumWrong)

/-- 'laws.FnExactEqualSystem': WHATEVER THE INPUT: true; the input reads as it did. -/
def fnExactEqualSystemSpec : ChangeSpec := { name := "fnExactEqualSystem", fn := fun _ => fun
  | [d1, d2] => { results := [.lit (.bool true)], args := [d1, d2] }
  | _ => none }
def fnExactEqualSystemRow : OpenClaim := { program := "ytkfllkmhbkmepaa", sum := "96699fbe74be4c198b5b599e6a0b23e7ce724067023755535ad5d016e31d93d3", func := "loop.example/g00515/laws.FnExactEqualSystem", spec := "fnExactEqualSystem", unfollowed := true, recurses := true, apart := false }
def FnExactEqualSystemSaid : Prop := fnExactEqualSystemRow.holds Try.pinned (OpenSpec.ofChange fnExactEqualSystemSpec)

/-- ITS FALSE NEIGHBOUR: 'it returns false'. Refute it at one input. -/
def fnExactEqualSystemWrong : ChangeSpec := { name := "fnExactEqualSystem", fn := fun _ => fun
  | [d1, d2] => { results := [.lit (.bool false)], args := [d1, d2] }
  | _ => none }
def FnExactEqualSystemWrongFalsely : Prop := fnExactEqualSystemRow.holds Try.pinned (OpenSpec.ofChange fnExactEqualSystemWrong)

/-- 'laws.FnSimpleLins': WHATEVER THE INPUT: true; the input reads as it did. -/
def fnSimpleLinsSpec : ChangeSpec := { name := "fnSimpleLins", fn := fun _ => fun
  | [d] => { results := [.lit (.bool true)], args := [d] }
  | _ => none }
def fnSimpleLinsRow : OpenClaim := { program := "ytkfllkmhbkmepaa", sum := "96699fbe74be4c198b5b599e6a0b23e7ce724067023755535ad5d016e31d93d3", func := "loop.example/g00515/laws.FnSimpleLins", spec := "fnSimpleLins", unfollowed := true, recurses := true, apart := false }
def FnSimpleLinsSaid : Prop := fnSimpleLinsRow.holds Try.pinned (OpenSpec.ofChange fnSimpleLinsSpec)

/-- ITS FALSE NEIGHBOUR: 'it returns false'. Refute it at one input. -/
def fnSimpleLinsWrong : ChangeSpec := { name := "fnSimpleLins", fn := fun _ => fun
  | [d] => { results := [.lit (.bool false)], args := [d] }
  | _ => none }
def FnSimpleLinsWrongFalsely : Prop := fnSimpleLinsRow.holds Try.pinned (OpenSpec.ofChange fnSimpleLinsWrong)

/-- 'laws.FnExactAddScaled': WHATEVER THE INPUT: true; the input reads as it did. -/
def fnExactAddScaledSpec : ChangeSpec := { name := "fnExactAddScaled", fn := fun _ => fun
  | [d1, d2, d3] => { results := [.lit (.bool true)], args := [d1, d2, d3] }
  | _ => none }
def fnExactAddScaledRow : OpenClaim := { program := "ytkfllkmhbkmepaa", sum := "96699fbe74be4c198b5b599e6a0b23e7ce724067023755535ad5d016e31d93d3", func := "loop.example/g00515/laws.FnExactAddScaled", spec := "fnExactAddScaled", unfollowed := true, recurses := true, apart := false }
def FnExactAddScaledSaid : Prop := fnExactAddScaledRow.holds Try.pinned (OpenSpec.ofChange fnExactAddScaledSpec)

/-- ITS FALSE NEIGHBOUR: 'it returns false'. Refute it at one input. -/
def fnExactAddScaledWrong : ChangeSpec := { name := "fnExactAddScaled", fn := fun _ => fun
  | [d1, d2, d3] => { results := [.lit (.bool false)], args := [d1, d2, d3] }
  | _ => none }
def FnExactAddScaledWrongFalsely : Prop := fnExactAddScaledRow.holds Try.pinned (OpenSpec.ofChange fnExactAddScaledWrong)

/-- 'laws.FnExactEqualArg': WHATEVER THE INPUT: true; the input reads as it did. -/
def fnExactEqualArgSpec : ChangeSpec := { name := "fnExactEqualArg", fn := fun _ => fun
  | [d1, d2] => { results := [.lit (.bool true)], args := [d1, d2] }
  | _ => none }
def fnExactEqualArgRow : OpenClaim := { program := "ytkfllkmhbkmepaa", sum := "96699fbe74be4c198b5b599e6a0b23e7ce724067023755535ad5d016e31d93d3", func := "loop.example/g00515/laws.FnExactEqualArg", spec := "fnExactEqualArg", unfollowed := true, recurses := true, apart := false }
def FnExactEqualArgSaid : Prop := fnExactEqualArgRow.holds Try.pinned (OpenSpec.ofChange fnExactEqualArgSpec)

/-- ITS FALSE NEIGHBOUR: 'it returns false'. Refute it at one input. -/
def fnExactEqualArgWrong : ChangeSpec := { name := "fnExactEqualArg", fn := fun _ => fun
  | [d1, d2] => { results := [.lit (.bool false)], args := [d1, d2] }
  | _ => none }
def FnExactEqualArgWrongFalsely : Prop := fnExactEqualArgRow.holds Try.pinned (OpenSpec.ofChange fnExactEqualArgWrong)

/-- 'laws.FnExactTightenLin': WHATEVER THE INPUT: true; the input reads as it did. -/
def fnExactTightenLinSpec : ChangeSpec := { name := "fnExactTightenLin", fn := fun _ => fun
  | [d] => { results := [.lit (.bool true)], args := [d] }
  | _ => none }
def fnExactTightenLinRow : OpenClaim := { program := "ytkfllkmhbkmepaa", sum := "96699fbe74be4c198b5b599e6a0b23e7ce724067023755535ad5d016e31d93d3", func := "loop.example/g00515/laws.FnExactTightenLin", spec := "fnExactTightenLin", unfollowed := true, recurses := true, apart := false }
def FnExactTightenLinSaid : Prop := fnExactTightenLinRow.holds Try.pinned (OpenSpec.ofChange fnExactTightenLinSpec)

/-- ITS FALSE NEIGHBOUR: 'it returns false'. Refute it at one input. -/
def fnExactTightenLinWrong : ChangeSpec := { name := "fnExactTightenLin", fn := fun _ => fun
  | [d] => { results := [.lit (.bool false)], args := [d] }
  | _ => none }
def FnExactTightenLinWrongFalsely : Prop := fnExactTightenLinRow.holds Try.pinned (OpenSpec.ofChange fnExactTightenLinWrong)

/-- 'laws.FnLinear': WHATEVER THE INPUT: true; the input reads as it did. -/
def fnLinearSpec : ChangeSpec := { name := "fnLinear", fn := fun _ => fun
  | [d] => { results := [.lit (.bool true)], args := [d] }
  | _ => none }
def fnLinearRow : OpenClaim := { program := "ytkfllkmhbkmepaa", sum := "96699fbe74be4c198b5b599e6a0b23e7ce724067023755535ad5d016e31d93d3", func := "loop.example/g00515/laws.FnLinear", spec := "fnLinear", unfollowed := true, recurses := true, apart := false }
def FnLinearSaid : Prop := fnLinearRow.holds Try.pinned (OpenSpec.ofChange fnLinearSpec)

/-- ITS FALSE NEIGHBOUR: 'it returns false'. Refute it at one input. -/
def fnLinearWrong : ChangeSpec := { name := "fnLinear", fn := fun _ => fun
  | [d] => { results := [.lit (.bool false)], args := [d] }
  | _ => none }
def FnLinearWrongFalsely : Prop := fnLinearRow.holds Try.pinned (OpenSpec.ofChange fnLinearWrong)

/-- 'laws.FnExactSatisfies': WHATEVER THE INPUT: true; the input reads as it did. -/
def fnExactSatisfiesSpec : ChangeSpec := { name := "fnExactSatisfies", fn := fun _ => fun
  | [d1, d2] => { results := [.lit (.bool true)], args := [d1, d2] }
  | _ => none }
def fnExactSatisfiesRow : OpenClaim := { program := "ytkfllkmhbkmepaa", sum := "96699fbe74be4c198b5b599e6a0b23e7ce724067023755535ad5d016e31d93d3", func := "loop.example/g00515/laws.FnExactSatisfies", spec := "fnExactSatisfies", unfollowed := true, recurses := true, apart := false }
def FnExactSatisfiesSaid : Prop := fnExactSatisfiesRow.holds Try.pinned (OpenSpec.ofChange fnExactSatisfiesSpec)

/-- ITS FALSE NEIGHBOUR: 'it returns false'. Refute it at one input. -/
def fnExactSatisfiesWrong : ChangeSpec := { name := "fnExactSatisfies", fn := fun _ => fun
  | [d1, d2] => { results := [.lit (.bool false)], args := [d1, d2] }
  | _ => none }
def FnExactSatisfiesWrongFalsely : Prop := fnExactSatisfiesRow.holds Try.pinned (OpenSpec.ofChange fnExactSatisfiesWrong)

/-- 'laws.FnTightened': WHATEVER THE INPUT: true; the input reads as it did. -/
def fnTightenedSpec : ChangeSpec := { name := "fnTightened", fn := fun _ => fun
  | [d] => { results := [.lit (.bool true)], args := [d] }
  | _ => none }
def fnTightenedRow : OpenClaim := { program := "ytkfllkmhbkmepaa", sum := "96699fbe74be4c198b5b599e6a0b23e7ce724067023755535ad5d016e31d93d3", func := "loop.example/g00515/laws.FnTightened", spec := "fnTightened", unfollowed := true, recurses := true, apart := false }
def FnTightenedSaid : Prop := fnTightenedRow.holds Try.pinned (OpenSpec.ofChange fnTightenedSpec)

/-- ITS FALSE NEIGHBOUR: 'it returns false'. Refute it at one input. -/
def fnTightenedWrong : ChangeSpec := { name := "fnTightened", fn := fun _ => fun
  | [d] => { results := [.lit (.bool false)], args := [d] }
  | _ => none }
def FnTightenedWrongFalsely : Prop := fnTightenedRow.holds Try.pinned (OpenSpec.ofChange fnTightenedWrong)

/-- 'laws.FnExactIsValidArg': WHATEVER THE INPUT: true; the input reads as it did. -/
def fnExactIsValidArgSpec : ChangeSpec := { name := "fnExactIsValidArg", fn := fun _ => fun
  | [d] => { results := [.lit (.bool true)], args := [d] }
  | _ => none }
def fnExactIsValidArgRow : OpenClaim := { program := "ytkfllkmhbkmepaa", sum := "96699fbe74be4c198b5b599e6a0b23e7ce724067023755535ad5d016e31d93d3", func := "loop.example/g00515/laws.FnExactIsValidArg", spec := "fnExactIsValidArg", unfollowed := true, recurses := true, apart := false }
def FnExactIsValidArgSaid : Prop := fnExactIsValidArgRow.holds Try.pinned (OpenSpec.ofChange fnExactIsValidArgSpec)

/-- ITS FALSE NEIGHBOUR: 'it returns false'. Refute it at one input. -/
def fnExactIsValidArgWrong : ChangeSpec := { name := "fnExactIsValidArg", fn := fun _ => fun
  | [d] => { results := [.lit (.bool false)], args := [d] }
  | _ => none }
def FnExactIsValidArgWrongFalsely : Prop := fnExactIsValidArgRow.holds Try.pinned (OpenSpec.ofChange fnExactIsValidArgWrong)

/- THE SECOND FORM. 'bulk': how many values and letters a reading holds, each counted each time it is reached (what is shared counts as often as it is met; a slice's spare places count too). A statement '..UptoSaid' is the law's where the arguments, and the package variables that the reading takes, are together of bulk at most 1048576: NARROWER than '..Said'. Prove '..Said' where nothing that the law and all that it calls make is longer than what came in: it says more and counts as full. Else prove '..UptoSaid'. A law counts once. -/
mutual
def uptoBulk {H : Type} : DataW H → Nat
  | .lit (.string bytes) => bytes.length + 1
  | .lit _ => 1
  | .nil => 1
  | .ptr d => uptoBulk d + 1
  | .slice elems spare => uptoBulkAll elems + uptoBulkAll spare + 1
  | .agg parts => uptoBulkAll parts + 1
  | .iface _ d => uptoBulk d + 1
  | .map entries => uptoBulkEntries entries + 1
  | .held _ => 1
def uptoBulkAll {H : Type} : List (DataW H) → Nat
  | [] => 0
  | d :: r => uptoBulk d + uptoBulkAll r
def uptoBulkEntries {H : Type} : List (Lit × DataW H) → Nat
  | [] => 0
  | x :: r => uptoBulkEntry x + uptoBulkEntries r
def uptoBulkEntry {H : Type} : Lit × DataW H → Nat
  | (.string bytes, d) => bytes.length + uptoBulk d + 1
  | (_, d) => uptoBulk d + 1
 end
def uptoSmall : (H : Type) → List (DataW H) → Bool := fun _ ds => decide (uptoBulkAll ds ≤ 1048576)
def OpenSpec.upto (s : _root_.Go.ChangeSpec) : _root_.Go.OpenSpec := { _root_.Go.OpenSpec.ofChange s with cond := some uptoSmall }

/-- 'laws.FnExactIsValidSystem', WHERE WHAT IT READS IS OF BULK AT MOST 1048576: true; the input reads as it did. -/
def fnExactIsValidSystemUptoRow : OpenClaim := { program := "ytkfllkmhbkmepaa", sum := "96699fbe74be4c198b5b599e6a0b23e7ce724067023755535ad5d016e31d93d3", func := "loop.example/g00515/laws.FnExactIsValidSystem", spec := "fnExactIsValidSystem", unfollowed := true, recurses := true, apart := false, narrowed := true }
def FnExactIsValidSystemUptoSaid : Prop := fnExactIsValidSystemUptoRow.holds Try.pinned (OpenSpec.upto fnExactIsValidSystemSpec)

/-- 'laws.FnExactIsValidSum', WHERE WHAT IT READS IS OF BULK AT MOST 1048576: true; the input reads as it did. -/
def fnExactIsValidSumUptoRow : OpenClaim := { program := "ytkfllkmhbkmepaa", sum := "96699fbe74be4c198b5b599e6a0b23e7ce724067023755535ad5d016e31d93d3", func := "loop.example/g00515/laws.FnExactIsValidSum", spec := "fnExactIsValidSum", apart := false, narrowed := true }
def FnExactIsValidSumUptoSaid : Prop := fnExactIsValidSumUptoRow.holds Try.pinned (OpenSpec.upto fnExactIsValidSumSpec)

/-- 'laws.FnExactEqualSystem', WHERE WHAT IT READS IS OF BULK AT MOST 1048576: true; the input reads as it did. -/
def fnExactEqualSystemUptoRow : OpenClaim := { program := "ytkfllkmhbkmepaa", sum := "96699fbe74be4c198b5b599e6a0b23e7ce724067023755535ad5d016e31d93d3", func := "loop.example/g00515/laws.FnExactEqualSystem", spec := "fnExactEqualSystem", unfollowed := true, recurses := true, apart := false, narrowed := true }
def FnExactEqualSystemUptoSaid : Prop := fnExactEqualSystemUptoRow.holds Try.pinned (OpenSpec.upto fnExactEqualSystemSpec)

/-- 'laws.FnSimpleLins', WHERE WHAT IT READS IS OF BULK AT MOST 1048576: true; the input reads as it did. -/
def fnSimpleLinsUptoRow : OpenClaim := { program := "ytkfllkmhbkmepaa", sum := "96699fbe74be4c198b5b599e6a0b23e7ce724067023755535ad5d016e31d93d3", func := "loop.example/g00515/laws.FnSimpleLins", spec := "fnSimpleLins", unfollowed := true, recurses := true, apart := false, narrowed := true }
def FnSimpleLinsUptoSaid : Prop := fnSimpleLinsUptoRow.holds Try.pinned (OpenSpec.upto fnSimpleLinsSpec)

/-- 'laws.FnExactAddScaled', WHERE WHAT IT READS IS OF BULK AT MOST 1048576: true; the input reads as it did. -/
def fnExactAddScaledUptoRow : OpenClaim := { program := "ytkfllkmhbkmepaa", sum := "96699fbe74be4c198b5b599e6a0b23e7ce724067023755535ad5d016e31d93d3", func := "loop.example/g00515/laws.FnExactAddScaled", spec := "fnExactAddScaled", unfollowed := true, recurses := true, apart := false, narrowed := true }
def FnExactAddScaledUptoSaid : Prop := fnExactAddScaledUptoRow.holds Try.pinned (OpenSpec.upto fnExactAddScaledSpec)

/-- 'laws.FnExactEqualArg', WHERE WHAT IT READS IS OF BULK AT MOST 1048576: true; the input reads as it did. -/
def fnExactEqualArgUptoRow : OpenClaim := { program := "ytkfllkmhbkmepaa", sum := "96699fbe74be4c198b5b599e6a0b23e7ce724067023755535ad5d016e31d93d3", func := "loop.example/g00515/laws.FnExactEqualArg", spec := "fnExactEqualArg", unfollowed := true, recurses := true, apart := false, narrowed := true }
def FnExactEqualArgUptoSaid : Prop := fnExactEqualArgUptoRow.holds Try.pinned (OpenSpec.upto fnExactEqualArgSpec)

/-- 'laws.FnExactTightenLin', WHERE WHAT IT READS IS OF BULK AT MOST 1048576: true; the input reads as it did. -/
def fnExactTightenLinUptoRow : OpenClaim := { program := "ytkfllkmhbkmepaa", sum := "96699fbe74be4c198b5b599e6a0b23e7ce724067023755535ad5d016e31d93d3", func := "loop.example/g00515/laws.FnExactTightenLin", spec := "fnExactTightenLin", unfollowed := true, recurses := true, apart := false, narrowed := true }
def FnExactTightenLinUptoSaid : Prop := fnExactTightenLinUptoRow.holds Try.pinned (OpenSpec.upto fnExactTightenLinSpec)

/-- 'laws.FnLinear', WHERE WHAT IT READS IS OF BULK AT MOST 1048576: true; the input reads as it did. -/
def fnLinearUptoRow : OpenClaim := { program := "ytkfllkmhbkmepaa", sum := "96699fbe74be4c198b5b599e6a0b23e7ce724067023755535ad5d016e31d93d3", func := "loop.example/g00515/laws.FnLinear", spec := "fnLinear", unfollowed := true, recurses := true, apart := false, narrowed := true }
def FnLinearUptoSaid : Prop := fnLinearUptoRow.holds Try.pinned (OpenSpec.upto fnLinearSpec)

/-- 'laws.FnExactSatisfies', WHERE WHAT IT READS IS OF BULK AT MOST 1048576: true; the input reads as it did. -/
def fnExactSatisfiesUptoRow : OpenClaim := { program := "ytkfllkmhbkmepaa", sum := "96699fbe74be4c198b5b599e6a0b23e7ce724067023755535ad5d016e31d93d3", func := "loop.example/g00515/laws.FnExactSatisfies", spec := "fnExactSatisfies", unfollowed := true, recurses := true, apart := false, narrowed := true }
def FnExactSatisfiesUptoSaid : Prop := fnExactSatisfiesUptoRow.holds Try.pinned (OpenSpec.upto fnExactSatisfiesSpec)

/-- 'laws.FnTightened', WHERE WHAT IT READS IS OF BULK AT MOST 1048576: true; the input reads as it did. -/
def fnTightenedUptoRow : OpenClaim := { program := "ytkfllkmhbkmepaa", sum := "96699fbe74be4c198b5b599e6a0b23e7ce724067023755535ad5d016e31d93d3", func := "loop.example/g00515/laws.FnTightened", spec := "fnTightened", unfollowed := true, recurses := true, apart := false, narrowed := true }
def FnTightenedUptoSaid : Prop := fnTightenedUptoRow.holds Try.pinned (OpenSpec.upto fnTightenedSpec)

/-- 'laws.FnExactIsValidArg', WHERE WHAT IT READS IS OF BULK AT MOST 1048576: true; the input reads as it did. -/
def fnExactIsValidArgUptoRow : OpenClaim := { program := "ytkfllkmhbkmepaa", sum := "96699fbe74be4c198b5b599e6a0b23e7ce724067023755535ad5d016e31d93d3", func := "loop.example/g00515/laws.FnExactIsValidArg", spec := "fnExactIsValidArg", unfollowed := true, recurses := true, apart := false, narrowed := true }
def FnExactIsValidArgUptoSaid : Prop := fnExactIsValidArgUptoRow.holds Try.pinned (OpenSpec.upto fnExactIsValidArgSpec)

end Rows
end Go.Proofs.Ytkfllkmhbkmepaa
