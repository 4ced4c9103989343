/-
  No cell of these rows narrows 'for every input' (looked for: loops, veiled, ifaces, maps, wideKeys, modest, calm, conditions, laid).
  DERIVED. THE GIVEN ROWS OF THIS SEAT. 10 by the template 'for every input the law returns true; each argument reads behind the call as it read before'; 0 by the template 'total and deterministic' (their statements: YtlencemmlgkflaaTotals.lean).
  GIVEN WITH THE SEED: the statements are not yours to turn. If you find one false, say at which input.
  Laid BY PROGRAM, IN A SANDBOX (cutbox-rows.mjs): the forced cells as the released guide's own fill.sh prints them over the translation abf9d16c7e9778f1… (all of the seat's roots in one cut). By AI agents, Wed Nov 11 2026. No macro, syntax, notation, axiom, sorry.
-/
import Derived.Test.YtlencemmlgkflaaChecked
import GoSem.Claim
import GoSem.ClaimJoined
import GoSem.ClaimMapViews
import Derived.JoinedTies
import Derived.KernelRfl
namespace Go.Proofs.Ytlencemmlgkflaa
/- THE CELL 'sum', in the pinned program and in every row, IS THE sha256 OF THE DUMP (.gsa) THAT YtlencemmlgkflaaProg.lean LOADS. Nothing in Lean hashes anything: it is a label: what it is worth is what the hold of that sum in a sandbox is worth. -/
noncomputable def Try.pinned : Pinned := { name := "ytlencemmlgkflaa", sum := "abf9d16c7e9778f13e88f4dac3829512a289f0074bf938bd3fac6e4dfa74736e", checked := Try.checked }
namespace Rows
def none {H : Type} : Left H := { results := [], args := [] }

/-- 'laws.FnFound': WHATEVER THE INPUT: true; the input reads as it did. -/
def fnFoundSpec : ChangeSpec := { name := "fnFound", fn := fun _ => fun
  | [d] => { results := [.lit (.bool true)], args := [d] }
  | _ => none }
def fnFoundRow : OpenClaim := { program := "ytlencemmlgkflaa", sum := "abf9d16c7e9778f13e88f4dac3829512a289f0074bf938bd3fac6e4dfa74736e", func := "loop.example/g00515/laws.FnFound", spec := "fnFound", unfollowed := true, recurses := true, apart := false }
def FnFoundSaid : Prop := fnFoundRow.holds Try.pinned (OpenSpec.ofChange fnFoundSpec)

/-- ITS FALSE NEIGHBOUR: 'it returns false'. Refute it at one input. -/
def fnFoundWrong : ChangeSpec := { name := "fnFound", fn := fun _ => fun
  | [d] => { results := [.lit (.bool false)], args := [d] }
  | _ => none }
def FnFoundWrongFalsely : Prop := fnFoundRow.holds Try.pinned (OpenSpec.ofChange fnFoundWrong)

/-- 'laws.FnExactAddRow': WHATEVER THE INPUT: true; the input reads as it did. -/
def fnExactAddRowSpec : ChangeSpec := { name := "fnExactAddRow", fn := fun _ => fun
  | [d1, d2] => { results := [.lit (.bool true)], args := [d1, d2] }
  | _ => none }
def fnExactAddRowRow : OpenClaim := { program := "ytlencemmlgkflaa", sum := "abf9d16c7e9778f13e88f4dac3829512a289f0074bf938bd3fac6e4dfa74736e", func := "loop.example/g00515/laws.FnExactAddRow", spec := "fnExactAddRow", unfollowed := true, recurses := true, apart := false }
def FnExactAddRowSaid : Prop := fnExactAddRowRow.holds Try.pinned (OpenSpec.ofChange fnExactAddRowSpec)

/-- ITS FALSE NEIGHBOUR: 'it returns false'. Refute it at one input. -/
def fnExactAddRowWrong : ChangeSpec := { name := "fnExactAddRow", fn := fun _ => fun
  | [d1, d2] => { results := [.lit (.bool false)], args := [d1, d2] }
  | _ => none }
def FnExactAddRowWrongFalsely : Prop := fnExactAddRowRow.holds Try.pinned (OpenSpec.ofChange fnExactAddRowWrong)

/-- 'laws.FnExactCombineRows': WHATEVER THE INPUT: true; the input reads as it did. -/
def fnExactCombineRowsSpec : ChangeSpec := { name := "fnExactCombineRows", fn := fun _ => fun
  | [d1, d2] => { results := [.lit (.bool true)], args := [d1, d2] }
  | _ => none }
def fnExactCombineRowsRow : OpenClaim := { program := "ytlencemmlgkflaa", sum := "abf9d16c7e9778f13e88f4dac3829512a289f0074bf938bd3fac6e4dfa74736e", func := "loop.example/g00515/laws.FnExactCombineRows", spec := "fnExactCombineRows", unfollowed := true, recurses := true, apart := false }
def FnExactCombineRowsSaid : Prop := fnExactCombineRowsRow.holds Try.pinned (OpenSpec.ofChange fnExactCombineRowsSpec)

/-- ITS FALSE NEIGHBOUR: 'it returns false'. Refute it at one input. -/
def fnExactCombineRowsWrong : ChangeSpec := { name := "fnExactCombineRows", fn := fun _ => fun
  | [d1, d2] => { results := [.lit (.bool false)], args := [d1, d2] }
  | _ => none }
def FnExactCombineRowsWrongFalsely : Prop := fnExactCombineRowsRow.holds Try.pinned (OpenSpec.ofChange fnExactCombineRowsWrong)

/-- 'laws.FnExactEntails': WHATEVER THE INPUT: true; the input reads as it did. -/
def fnExactEntailsSpec : ChangeSpec := { name := "fnExactEntails", fn := fun _ => fun
  | [d1, d2] => { results := [.lit (.bool true)], args := [d1, d2] }
  | _ => none }
def fnExactEntailsRow : OpenClaim := { program := "ytlencemmlgkflaa", sum := "abf9d16c7e9778f13e88f4dac3829512a289f0074bf938bd3fac6e4dfa74736e", func := "loop.example/g00515/laws.FnExactEntails", spec := "fnExactEntails", unfollowed := true, recurses := true, apart := false }
def FnExactEntailsSaid : Prop := fnExactEntailsRow.holds Try.pinned (OpenSpec.ofChange fnExactEntailsSpec)

/-- ITS FALSE NEIGHBOUR: 'it returns false'. Refute it at one input. -/
def fnExactEntailsWrong : ChangeSpec := { name := "fnExactEntails", fn := fun _ => fun
  | [d1, d2] => { results := [.lit (.bool false)], args := [d1, d2] }
  | _ => none }
def FnExactEntailsWrongFalsely : Prop := fnExactEntailsRow.holds Try.pinned (OpenSpec.ofChange fnExactEntailsWrong)

/-- 'laws.FnExactIsEmptySystem': WHATEVER THE INPUT: true; the input reads as it did. -/
def fnExactIsEmptySystemSpec : ChangeSpec := { name := "fnExactIsEmptySystem", fn := fun _ => fun
  | [d] => { results := [.lit (.bool true)], args := [d] }
  | _ => none }
def fnExactIsEmptySystemRow : OpenClaim := { program := "ytlencemmlgkflaa", sum := "abf9d16c7e9778f13e88f4dac3829512a289f0074bf938bd3fac6e4dfa74736e", func := "loop.example/g00515/laws.FnExactIsEmptySystem", spec := "fnExactIsEmptySystem", unfollowed := true, recurses := true, apart := false }
def FnExactIsEmptySystemSaid : Prop := fnExactIsEmptySystemRow.holds Try.pinned (OpenSpec.ofChange fnExactIsEmptySystemSpec)

/-- ITS FALSE NEIGHBOUR: 'it returns false'. Refute it at one input. -/
def fnExactIsEmptySystemWrong : ChangeSpec := { name := "fnExactIsEmptySystem", fn := fun _ => fun
  | [d] => { results := [.lit (.bool false)], args := [d] }
  | _ => none }
def FnExactIsEmptySystemWrongFalsely : Prop := fnExactIsEmptySystemRow.holds Try.pinned (OpenSpec.ofChange fnExactIsEmptySystemWrong)

/-- 'laws.FnExactFindFarkas': WHATEVER THE INPUT: true; the input reads as it did. -/
def fnExactFindFarkasSpec : ChangeSpec := { name := "fnExactFindFarkas", fn := fun _ => fun
  | [d1, d2] => { results := [.lit (.bool true)], args := [d1, d2] }
  | _ => none }
def fnExactFindFarkasRow : OpenClaim := { program := "ytlencemmlgkflaa", sum := "abf9d16c7e9778f13e88f4dac3829512a289f0074bf938bd3fac6e4dfa74736e", func := "loop.example/g00515/laws.FnExactFindFarkas", spec := "fnExactFindFarkas", unfollowed := true, recurses := true, apart := false }
def FnExactFindFarkasSaid : Prop := fnExactFindFarkasRow.holds Try.pinned (OpenSpec.ofChange fnExactFindFarkasSpec)

/-- ITS FALSE NEIGHBOUR: 'it returns false'. Refute it at one input. -/
def fnExactFindFarkasWrong : ChangeSpec := { name := "fnExactFindFarkas", fn := fun _ => fun
  | [d1, d2] => { results := [.lit (.bool false)], args := [d1, d2] }
  | _ => none }
def FnExactFindFarkasWrongFalsely : Prop := fnExactFindFarkasRow.holds Try.pinned (OpenSpec.ofChange fnExactFindFarkasWrong)

/-- 'laws.FnEntailed': WHATEVER THE INPUT: true; the input reads as it did. -/
def fnEntailedSpec : ChangeSpec := { name := "fnEntailed", fn := fun _ => fun
  | [d] => { results := [.lit (.bool true)], args := [d] }
  | _ => none }
def fnEntailedRow : OpenClaim := { program := "ytlencemmlgkflaa", sum := "abf9d16c7e9778f13e88f4dac3829512a289f0074bf938bd3fac6e4dfa74736e", func := "loop.example/g00515/laws.FnEntailed", spec := "fnEntailed", unfollowed := true, recurses := true, apart := false }
def FnEntailedSaid : Prop := fnEntailedRow.holds Try.pinned (OpenSpec.ofChange fnEntailedSpec)

/-- ITS FALSE NEIGHBOUR: 'it returns false'. Refute it at one input. -/
def fnEntailedWrong : ChangeSpec := { name := "fnEntailed", fn := fun _ => fun
  | [d] => { results := [.lit (.bool false)], args := [d] }
  | _ => none }
def FnEntailedWrongFalsely : Prop := fnEntailedRow.holds Try.pinned (OpenSpec.ofChange fnEntailedWrong)

/-- 'laws.FnExactJoin': WHATEVER THE INPUT: true; the input reads as it did. -/
def fnExactJoinSpec : ChangeSpec := { name := "fnExactJoin", fn := fun _ => fun
  | [d1, d2] => { results := [.lit (.bool true)], args := [d1, d2] }
  | _ => none }
def fnExactJoinRow : OpenClaim := { program := "ytlencemmlgkflaa", sum := "abf9d16c7e9778f13e88f4dac3829512a289f0074bf938bd3fac6e4dfa74736e", func := "loop.example/g00515/laws.FnExactJoin", spec := "fnExactJoin", inPlace := ["internal/abi.NoEscape", "internal/bytealg.MakeNoZero"], apart := false }
def FnExactJoinSaid : Prop := fnExactJoinRow.holds Try.pinned (OpenSpec.ofChange fnExactJoinSpec)

/-- ITS FALSE NEIGHBOUR: 'it returns false'. Refute it at one input. -/
def fnExactJoinWrong : ChangeSpec := { name := "fnExactJoin", fn := fun _ => fun
  | [d1, d2] => { results := [.lit (.bool false)], args := [d1, d2] }
  | _ => none }
def FnExactJoinWrongFalsely : Prop := fnExactJoinRow.holds Try.pinned (OpenSpec.ofChange fnExactJoinWrong)

/-- 'laws.FnExactSortNames': WHATEVER THE INPUT: true; the input reads as it did. -/
def fnExactSortNamesSpec : ChangeSpec := { name := "fnExactSortNames", fn := fun _ => fun
  | [d] => { results := [.lit (.bool true)], args := [d] }
  | _ => none }
def fnExactSortNamesRow : OpenClaim := { program := "ytlencemmlgkflaa", sum := "abf9d16c7e9778f13e88f4dac3829512a289f0074bf938bd3fac6e4dfa74736e", func := "loop.example/g00515/laws.FnExactSortNames", spec := "fnExactSortNames", recurses := true, apart := false }
def FnExactSortNamesSaid : Prop := fnExactSortNamesRow.holds Try.pinned (OpenSpec.ofChange fnExactSortNamesSpec)

/-- ITS FALSE NEIGHBOUR: 'it returns false'. Refute it at one input. -/
def fnExactSortNamesWrong : ChangeSpec := { name := "fnExactSortNames", fn := fun _ => fun
  | [d] => { results := [.lit (.bool false)], args := [d] }
  | _ => none }
def FnExactSortNamesWrongFalsely : Prop := fnExactSortNamesRow.holds Try.pinned (OpenSpec.ofChange fnExactSortNamesWrong)

/-- 'laws.FnNames': WHATEVER THE INPUT: true; the input reads as it did. -/
def fnNamesSpec : ChangeSpec := { name := "fnNames", fn := fun _ => fun
  | [d] => { results := [.lit (.bool true)], args := [d] }
  | _ => none }
def fnNamesRow : OpenClaim := { program := "ytlencemmlgkflaa", sum := "abf9d16c7e9778f13e88f4dac3829512a289f0074bf938bd3fac6e4dfa74736e", func := "loop.example/g00515/laws.FnNames", spec := "fnNames", recurses := true, apart := false }
def FnNamesSaid : Prop := fnNamesRow.holds Try.pinned (OpenSpec.ofChange fnNamesSpec)

/-- ITS FALSE NEIGHBOUR: 'it returns false'. Refute it at one input. -/
def fnNamesWrong : ChangeSpec := { name := "fnNames", fn := fun _ => fun
  | [d] => { results := [.lit (.bool false)], args := [d] }
  | _ => none }
def FnNamesWrongFalsely : Prop := fnNamesRow.holds Try.pinned (OpenSpec.ofChange fnNamesWrong)

/- THE SECOND FORM. 'bulk': how many values and letters a reading holds, each counted each time it is reached (what is shared counts as often as it is met; a slice's spare places count too). A statement '..UptoSaid' is the law's where the arguments, and the package variables that the reading takes, are together of bulk at most 1048576: NARROWER than '..Said'. Prove '..Said' where nothing that the law and all that it calls make is longer than what came in: it says more and counts as full. Else prove '..UptoSaid'. A law counts once. -/
mutual
def uptoBulk {H : Type} : DataW H → Nat
  | .lit (.string bytes) => bytes.length + 1
  | .lit _ => 1
  | .nil => 1
  | .ptr d => uptoBulk d + 1
  | .slice elems spare => uptoBulkAll elems + uptoBulkAll spare + 1
  | .agg parts => uptoBulkAll parts + 1
  | .iface _ d => uptoBulk d + 1
  | .map entries => uptoBulkEntries entries + 1
  | .held _ => 1
def uptoBulkAll {H : Type} : List (DataW H) → Nat
  | [] => 0
  | d :: r => uptoBulk d + uptoBulkAll r
def uptoBulkEntries {H : Type} : List (Lit × DataW H) → Nat
  | [] => 0
  | x :: r => uptoBulkEntry x + uptoBulkEntries r
def uptoBulkEntry {H : Type} : Lit × DataW H → Nat
  | (.string bytes, d) => bytes.length + uptoBulk d + 1
  | (_, d) => uptoBulk d + 1
 end
def uptoSmall : (H : Type) → List (DataW H) → Bool := fun _ ds => decide (uptoBulkAll ds ≤ 1048576)
def OpenSpec.upto (s : _root_.Go.ChangeSpec) : _root_.Go.OpenSpec := { _root_.Go.OpenSpec.ofChange s with cond := some uptoSmall }

/-- 'laws.FnFound', WHERE WHAT IT READS IS OF BULK AT MOST 1048576: true; the input reads as it did. -/
def fnFoundUptoRow : OpenClaim := { program := "ytlencemmlgkflaa", sum := "abf9d16c7e9778f13e88f4dac3829512a289f0074bf938bd3fac6e4dfa74736e", func := "loop.example/g00515/laws.FnFound", spec := "fnFound", unfollowed := true, recurses := true, apart := false, narrowed := true }
def FnFoundUptoSaid : Prop := fnFoundUptoRow.holds Try.pinned (OpenSpec.upto fnFoundSpec)

/-- 'laws.FnExactAddRow', WHERE WHAT IT READS IS OF BULK AT MOST 1048576: true; the input reads as it did. -/
def fnExactAddRowUptoRow : OpenClaim := { program := "ytlencemmlgkflaa", sum := "abf9d16c7e9778f13e88f4dac3829512a289f0074bf938bd3fac6e4dfa74736e", func := "loop.example/g00515/laws.FnExactAddRow", spec := "fnExactAddRow", unfollowed := true, recurses := true, apart := false, narrowed := true }
def FnExactAddRowUptoSaid : Prop := fnExactAddRowUptoRow.holds Try.pinned (OpenSpec.upto fnExactAddRowSpec)

/-- 'laws.FnExactCombineRows', WHERE WHAT IT READS IS OF BULK AT MOST 1048576: true; the input reads as it did. -/
def fnExactCombineRowsUptoRow : OpenClaim := { program := "ytlencemmlgkflaa", sum := "abf9d16c7e9778f13e88f4dac3829512a289f0074bf938bd3fac6e4dfa74736e", func := "loop.example/g00515/laws.FnExactCombineRows", spec := "fnExactCombineRows", unfollowed := true, recurses := true, apart := false, narrowed := true }
def FnExactCombineRowsUptoSaid : Prop := fnExactCombineRowsUptoRow.holds Try.pinned (OpenSpec.upto fnExactCombineRowsSpec)

/-- 'laws.FnExactEntails', WHERE WHAT IT READS IS OF BULK AT MOST 1048576: true; the input reads as it did. -/
def fnExactEntailsUptoRow : OpenClaim := { program := "ytlencemmlgkflaa", sum := "abf9d16c7e9778f13e88f4dac3829512a289f0074bf938bd3fac6e4dfa74736e", func := "loop.example/g00515/laws.FnExactEntails", spec := "fnExactEntails", unfollowed := true, recurses := true, apart := false, narrowed := true }
def FnExactEntailsUptoSaid : Prop := fnExactEntailsUptoRow.holds Try.pinned (OpenSpec.upto fnExactEntailsSpec)

/-- 'laws.FnExactIsEmptySystem', WHERE WHAT IT READS IS OF BULK AT MOST 1048576: true; the input reads as it did. -/
def fnExactIsEmptySystemUptoRow : OpenClaim := { program := "ytlencemmlgkflaa", sum := "abf9d16c7e9778f13e88f4dac3829512a289f0074bf938bd3fac6e4dfa74736e", func := "loop.example/g00515/laws.FnExactIsEmptySystem", spec := "fnExactIsEmptySystem", unfollowed := true, recurses := true, apart := false, narrowed := true }
def FnExactIsEmptySystemUptoSaid : Prop := fnExactIsEmptySystemUptoRow.holds Try.pinned (OpenSpec.upto fnExactIsEmptySystemSpec)

/-- 'laws.FnExactFindFarkas', WHERE WHAT IT READS IS OF BULK AT MOST 1048576: true; the input reads as it did. -/
def fnExactFindFarkasUptoRow : OpenClaim := { program := "ytlencemmlgkflaa", sum := "abf9d16c7e9778f13e88f4dac3829512a289f0074bf938bd3fac6e4dfa74736e", func := "loop.example/g00515/laws.FnExactFindFarkas", spec := "fnExactFindFarkas", unfollowed := true, recurses := true, apart := false, narrowed := true }
def FnExactFindFarkasUptoSaid : Prop := fnExactFindFarkasUptoRow.holds Try.pinned (OpenSpec.upto fnExactFindFarkasSpec)

/-- 'laws.FnEntailed', WHERE WHAT IT READS IS OF BULK AT MOST 1048576: true; the input reads as it did. -/
def fnEntailedUptoRow : OpenClaim := { program := "ytlencemmlgkflaa", sum := "abf9d16c7e9778f13e88f4dac3829512a289f0074bf938bd3fac6e4dfa74736e", func := "loop.example/g00515/laws.FnEntailed", spec := "fnEntailed", unfollowed := true, recurses := true, apart := false, narrowed := true }
def FnEntailedUptoSaid : Prop := fnEntailedUptoRow.holds Try.pinned (OpenSpec.upto fnEntailedSpec)

/-- 'laws.FnExactJoin', WHERE WHAT IT READS IS OF BULK AT MOST 1048576: true; the input reads as it did. -/
def fnExactJoinUptoRow : OpenClaim := { program := "ytlencemmlgkflaa", sum := "abf9d16c7e9778f13e88f4dac3829512a289f0074bf938bd3fac6e4dfa74736e", func := "loop.example/g00515/laws.FnExactJoin", spec := "fnExactJoin", inPlace := ["internal/abi.NoEscape", "internal/bytealg.MakeNoZero"], apart := false, narrowed := true }
def FnExactJoinUptoSaid : Prop := fnExactJoinUptoRow.holds Try.pinned (OpenSpec.upto fnExactJoinSpec)

/-- 'laws.FnExactSortNames', WHERE WHAT IT READS IS OF BULK AT MOST 1048576: true; the input reads as it did. -/
def fnExactSortNamesUptoRow : OpenClaim := { program := "ytlencemmlgkflaa", sum := "abf9d16c7e9778f13e88f4dac3829512a289f0074bf938bd3fac6e4dfa74736e", func := "loop.example/g00515/laws.FnExactSortNames", spec := "fnExactSortNames", recurses := true, apart := false, narrowed := true }
def FnExactSortNamesUptoSaid : Prop := fnExactSortNamesUptoRow.holds Try.pinned (OpenSpec.upto fnExactSortNamesSpec)

/-- 'laws.FnNames', WHERE WHAT IT READS IS OF BULK AT MOST 1048576: true; the input reads as it did. -/
def fnNamesUptoRow : OpenClaim := { program := "ytlencemmlgkflaa", sum := "abf9d16c7e9778f13e88f4dac3829512a289f0074bf938bd3fac6e4dfa74736e", func := "loop.example/g00515/laws.FnNames", spec := "fnNames", recurses := true, apart := false, narrowed := true }
def FnNamesUptoSaid : Prop := fnNamesUptoRow.holds Try.pinned (OpenSpec.upto fnNamesSpec)

end Rows
end Go.Proofs.Ytlencemmlgkflaa
