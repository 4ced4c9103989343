/-
  No cell of these rows narrows 'for every input' (looked for: loops, veiled, ifaces, maps, wideKeys, modest, calm, conditions, laid).
  DERIVED. THE GIVEN ROWS OF THIS SEAT. 8 by the template 'for every input the law returns true; each argument reads behind the call as it read before'; 0 by the template 'total and deterministic' (their statements: YtghiljjkaiggfaaTotals.lean).
  GIVEN WITH THE SEED: the statements are not yours to turn. If you find one false, say at which input.
  Laid BY PROGRAM, IN A SANDBOX (cutbox-rows.mjs): the forced cells as the released guide's own fill.sh prints them over the translation 926f851d28528250… (all of the seat's roots in one cut). By AI agents, Wed Nov 11 2026. No macro, syntax, notation, axiom, sorry.
-/
import Derived.Test.YtghiljjkaiggfaaChecked
import GoSem.Claim
import GoSem.ClaimJoined
import GoSem.ClaimMapViews
import Derived.JoinedTies
import Derived.KernelRfl
namespace Go.Proofs.Ytghiljjkaiggfaa
/- THE CELL 'sum', in the pinned program and in every row, IS THE sha256 OF THE DUMP (.gsa) THAT YtghiljjkaiggfaaProg.lean LOADS. Nothing in Lean hashes anything: it is a label: what it is worth is what the hold of that sum in a sandbox is worth. -/
noncomputable def Try.pinned : Pinned := { name := "ytghiljjkaiggfaa", sum := "926f851d285282500779d3499001d0e3c8547c1739a431a16e08cdf10c9205ba", checked := Try.checked }
namespace Rows
def none {H : Type} : Left H := { results := [], args := [] }

/-- 'laws.FnExactAddRow': WHATEVER THE INPUT: true; the input reads as it did. -/
def fnExactAddRowSpec : ChangeSpec := { name := "fnExactAddRow", fn := fun _ => fun
  | [d1, d2] => { results := [.lit (.bool true)], args := [d1, d2] }
  | _ => none }
def fnExactAddRowRow : OpenClaim := { program := "ytghiljjkaiggfaa", sum := "926f851d285282500779d3499001d0e3c8547c1739a431a16e08cdf10c9205ba", func := "loop.example/g00515/laws.FnExactAddRow", spec := "fnExactAddRow", unfollowed := true, recurses := true, apart := false }
def FnExactAddRowSaid : Prop := fnExactAddRowRow.holds Try.pinned (OpenSpec.ofChange fnExactAddRowSpec)

/-- ITS FALSE NEIGHBOUR: 'it returns false'. Refute it at one input. -/
def fnExactAddRowWrong : ChangeSpec := { name := "fnExactAddRow", fn := fun _ => fun
  | [d1, d2] => { results := [.lit (.bool false)], args := [d1, d2] }
  | _ => none }
def FnExactAddRowWrongFalsely : Prop := fnExactAddRowRow.holds Try.pinned (OpenSpec.ofChange fnExactAddRowWrong)

/-- 'laws.FnExactCheckEmpty': WHATEVER THE INPUT: true; the input reads as it did. -/
def fnExactCheckEmptySpec : ChangeSpec := { name := "fnExactCheckEmpty", fn := fun _ => fun
  | [d1, d2] => { results := [.lit (.bool true)], args := [d1, d2] }
  | _ => none }
def fnExactCheckEmptyRow : OpenClaim := { program := "ytghiljjkaiggfaa", sum := "926f851d285282500779d3499001d0e3c8547c1739a431a16e08cdf10c9205ba", func := "loop.example/g00515/laws.FnExactCheckEmpty", spec := "fnExactCheckEmpty", unfollowed := true, recurses := true, apart := false }
def FnExactCheckEmptySaid : Prop := fnExactCheckEmptyRow.holds Try.pinned (OpenSpec.ofChange fnExactCheckEmptySpec)

/-- ITS FALSE NEIGHBOUR: 'it returns false'. Refute it at one input. -/
def fnExactCheckEmptyWrong : ChangeSpec := { name := "fnExactCheckEmpty", fn := fun _ => fun
  | [d1, d2] => { results := [.lit (.bool false)], args := [d1, d2] }
  | _ => none }
def FnExactCheckEmptyWrongFalsely : Prop := fnExactCheckEmptyRow.holds Try.pinned (OpenSpec.ofChange fnExactCheckEmptyWrong)

/-- 'laws.FnExactCombineRows': WHATEVER THE INPUT: true; the input reads as it did. -/
def fnExactCombineRowsSpec : ChangeSpec := { name := "fnExactCombineRows", fn := fun _ => fun
  | [d1, d2] => { results := [.lit (.bool true)], args := [d1, d2] }
  | _ => none }
def fnExactCombineRowsRow : OpenClaim := { program := "ytghiljjkaiggfaa", sum := "926f851d285282500779d3499001d0e3c8547c1739a431a16e08cdf10c9205ba", func := "loop.example/g00515/laws.FnExactCombineRows", spec := "fnExactCombineRows", unfollowed := true, recurses := true, apart := false }
def FnExactCombineRowsSaid : Prop := fnExactCombineRowsRow.holds Try.pinned (OpenSpec.ofChange fnExactCombineRowsSpec)

/-- ITS FALSE NEIGHBOUR: 'it returns false'. Refute it at one input. -/
def fnExactCombineRowsWrong : ChangeSpec := { name := "fnExactCombineRows", fn := fun _ => fun
  | [d1, d2] => { results := [.lit (.bool false)], args := [d1, d2] }
  | _ => none }
def FnExactCombineRowsWrongFalsely : Prop := fnExactCombineRowsRow.holds Try.pinned (OpenSpec.ofChange fnExactCombineRowsWrong)

/-- 'laws.FnSystems': WHATEVER THE INPUT: true; the input reads as it did. -/
def fnSystemsSpec : ChangeSpec := { name := "fnSystems", fn := fun _ => fun
  | [d] => { results := [.lit (.bool true)], args := [d] }
  | _ => none }
def fnSystemsRow : OpenClaim := { program := "ytghiljjkaiggfaa", sum := "926f851d285282500779d3499001d0e3c8547c1739a431a16e08cdf10c9205ba", func := "loop.example/g00515/laws.FnSystems", spec := "fnSystems", unfollowed := true, recurses := true, apart := false }
def FnSystemsSaid : Prop := fnSystemsRow.holds Try.pinned (OpenSpec.ofChange fnSystemsSpec)

/-- ITS FALSE NEIGHBOUR: 'it returns false'. Refute it at one input. -/
def fnSystemsWrong : ChangeSpec := { name := "fnSystems", fn := fun _ => fun
  | [d] => { results := [.lit (.bool false)], args := [d] }
  | _ => none }
def FnSystemsWrongFalsely : Prop := fnSystemsRow.holds Try.pinned (OpenSpec.ofChange fnSystemsWrong)

/-- 'laws.FnCombined': WHATEVER THE INPUT: true; the input reads as it did. -/
def fnCombinedSpec : ChangeSpec := { name := "fnCombined", fn := fun _ => fun
  | [d] => { results := [.lit (.bool true)], args := [d] }
  | _ => none }
def fnCombinedRow : OpenClaim := { program := "ytghiljjkaiggfaa", sum := "926f851d285282500779d3499001d0e3c8547c1739a431a16e08cdf10c9205ba", func := "loop.example/g00515/laws.FnCombined", spec := "fnCombined", unfollowed := true, recurses := true, apart := false }
def FnCombinedSaid : Prop := fnCombinedRow.holds Try.pinned (OpenSpec.ofChange fnCombinedSpec)

/-- ITS FALSE NEIGHBOUR: 'it returns false'. Refute it at one input. -/
def fnCombinedWrong : ChangeSpec := { name := "fnCombined", fn := fun _ => fun
  | [d] => { results := [.lit (.bool false)], args := [d] }
  | _ => none }
def FnCombinedWrongFalsely : Prop := fnCombinedRow.holds Try.pinned (OpenSpec.ofChange fnCombinedWrong)

/-- 'laws.FnExactCheckFarkas': WHATEVER THE INPUT: true; the input reads as it did. -/
def fnExactCheckFarkasSpec : ChangeSpec := { name := "fnExactCheckFarkas", fn := fun _ => fun
  | [d1, d2, d3] => { results := [.lit (.bool true)], args := [d1, d2, d3] }
  | _ => none }
def fnExactCheckFarkasRow : OpenClaim := { program := "ytghiljjkaiggfaa", sum := "926f851d285282500779d3499001d0e3c8547c1739a431a16e08cdf10c9205ba", func := "loop.example/g00515/laws.FnExactCheckFarkas", spec := "fnExactCheckFarkas", unfollowed := true, recurses := true, apart := false }
def FnExactCheckFarkasSaid : Prop := fnExactCheckFarkasRow.holds Try.pinned (OpenSpec.ofChange fnExactCheckFarkasSpec)

/-- ITS FALSE NEIGHBOUR: 'it returns false'. Refute it at one input. -/
def fnExactCheckFarkasWrong : ChangeSpec := { name := "fnExactCheckFarkas", fn := fun _ => fun
  | [d1, d2, d3] => { results := [.lit (.bool false)], args := [d1, d2, d3] }
  | _ => none }
def FnExactCheckFarkasWrongFalsely : Prop := fnExactCheckFarkasRow.holds Try.pinned (OpenSpec.ofChange fnExactCheckFarkasWrong)

/-- 'laws.FnExactSortNames': WHATEVER THE INPUT: true; the input reads as it did. -/
def fnExactSortNamesSpec : ChangeSpec := { name := "fnExactSortNames", fn := fun _ => fun
  | [d] => { results := [.lit (.bool true)], args := [d] }
  | _ => none }
def fnExactSortNamesRow : OpenClaim := { program := "ytghiljjkaiggfaa", sum := "926f851d285282500779d3499001d0e3c8547c1739a431a16e08cdf10c9205ba", func := "loop.example/g00515/laws.FnExactSortNames", spec := "fnExactSortNames", recurses := true, apart := false }
def FnExactSortNamesSaid : Prop := fnExactSortNamesRow.holds Try.pinned (OpenSpec.ofChange fnExactSortNamesSpec)

/-- ITS FALSE NEIGHBOUR: 'it returns false'. Refute it at one input. -/
def fnExactSortNamesWrong : ChangeSpec := { name := "fnExactSortNames", fn := fun _ => fun
  | [d] => { results := [.lit (.bool false)], args := [d] }
  | _ => none }
def FnExactSortNamesWrongFalsely : Prop := fnExactSortNamesRow.holds Try.pinned (OpenSpec.ofChange fnExactSortNamesWrong)

/-- 'laws.FnExactEntails': WHATEVER THE INPUT: true; the input reads as it did. -/
def fnExactEntailsSpec : ChangeSpec := { name := "fnExactEntails", fn := fun _ => fun
  | [d1, d2] => { results := [.lit (.bool true)], args := [d1, d2] }
  | _ => none }
def fnExactEntailsRow : OpenClaim := { program := "ytghiljjkaiggfaa", sum := "926f851d285282500779d3499001d0e3c8547c1739a431a16e08cdf10c9205ba", func := "loop.example/g00515/laws.FnExactEntails", spec := "fnExactEntails", unfollowed := true, recurses := true, apart := false }
def FnExactEntailsSaid : Prop := fnExactEntailsRow.holds Try.pinned (OpenSpec.ofChange fnExactEntailsSpec)

/-- ITS FALSE NEIGHBOUR: 'it returns false'. Refute it at one input. -/
def fnExactEntailsWrong : ChangeSpec := { name := "fnExactEntails", fn := fun _ => fun
  | [d1, d2] => { results := [.lit (.bool false)], args := [d1, d2] }
  | _ => none }
def FnExactEntailsWrongFalsely : Prop := fnExactEntailsRow.holds Try.pinned (OpenSpec.ofChange fnExactEntailsWrong)

/- THE SECOND FORM. 'bulk': how many values and letters a reading holds, each counted each time it is reached (what is shared counts as often as it is met; a slice's spare places count too). A statement '..UptoSaid' is the law's where the arguments, and the package variables that the reading takes, are together of bulk at most 1048576: NARROWER than '..Said'. Prove '..Said' where nothing that the law and all that it calls make is longer than what came in: it says more and counts as full. Else prove '..UptoSaid'. A law counts once. -/
mutual
def uptoBulk {H : Type} : DataW H → Nat
  | .lit (.string bytes) => bytes.length + 1
  | .lit _ => 1
  | .nil => 1
  | .ptr d => uptoBulk d + 1
  | .slice elems spare => uptoBulkAll elems + uptoBulkAll spare + 1
  | .agg parts => uptoBulkAll parts + 1
  | .iface _ d => uptoBulk d + 1
  | .map entries => uptoBulkEntries entries + 1
  | .held _ => 1
def uptoBulkAll {H : Type} : List (DataW H) → Nat
  | [] => 0
  | d :: r => uptoBulk d + uptoBulkAll r
def uptoBulkEntries {H : Type} : List (Lit × DataW H) → Nat
  | [] => 0
  | x :: r => uptoBulkEntry x + uptoBulkEntries r
def uptoBulkEntry {H : Type} : Lit × DataW H → Nat
  | (.string bytes, d) => bytes.length + uptoBulk d + 1
  | (_, d) => uptoBulk d + 1
 end
def uptoSmall : (H : Type) → List (DataW H) → Bool := fun _ ds => decide (uptoBulkAll ds ≤ 1048576)
def OpenSpec.upto (s : _root_.Go.ChangeSpec) : _root_.Go.OpenSpec := { _root_.Go.OpenSpec.ofChange s with cond := some uptoSmall }

/-- 'laws.FnExactAddRow', WHERE WHAT IT READS IS OF BULK AT MOST 1048576: true; the input reads as it did. -/
def fnExactAddRowUptoRow : OpenClaim := { program := "ytghiljjkaiggfaa", sum := "926f851d285282500779d3499001d0e3c8547c1739a431a16e08cdf10c9205ba", func := "loop.example/g00515/laws.FnExactAddRow", spec := "fnExactAddRow", unfollowed := true, recurses := true, apart := false, narrowed := true }
def FnExactAddRowUptoSaid : Prop := fnExactAddRowUptoRow.holds Try.pinned (OpenSpec.upto fnExactAddRowSpec)

/-- 'laws.FnExactCheckEmpty', WHERE WHAT IT READS IS OF BULK AT MOST 1048576: true; the input reads as it did. -/
def fnExactCheckEmptyUptoRow : OpenClaim := { program := "ytghiljjkaiggfaa", sum := "926f851d285282500779d3499001d0e3c8547c1739a431a16e08cdf10c9205ba", func := "loop.example/g00515/laws.FnExactCheckEmpty", spec := "fnExactCheckEmpty", unfollowed := true, recurses := true, apart := false, narrowed := true }
def FnExactCheckEmptyUptoSaid : Prop := fnExactCheckEmptyUptoRow.holds Try.pinned (OpenSpec.upto fnExactCheckEmptySpec)

/-- 'laws.FnExactCombineRows', WHERE WHAT IT READS IS OF BULK AT MOST 1048576: true; the input reads as it did. -/
def fnExactCombineRowsUptoRow : OpenClaim := { program := "ytghiljjkaiggfaa", sum := "926f851d285282500779d3499001d0e3c8547c1739a431a16e08cdf10c9205ba", func := "loop.example/g00515/laws.FnExactCombineRows", spec := "fnExactCombineRows", unfollowed := true, recurses := true, apart := false, narrowed := true }
def FnExactCombineRowsUptoSaid : Prop := fnExactCombineRowsUptoRow.holds Try.pinned (OpenSpec.upto fnExactCombineRowsSpec)

/-- 'laws.FnSystems', WHERE WHAT IT READS IS OF BULK AT MOST 1048576: true; the input reads as it did. -/
def fnSystemsUptoRow : OpenClaim := { program := "ytghiljjkaiggfaa", sum := "926f851d285282500779d3499001d0e3c8547c1739a431a16e08cdf10c9205ba", func := "loop.example/g00515/laws.FnSystems", spec := "fnSystems", unfollowed := true, recurses := true, apart := false, narrowed := true }
def FnSystemsUptoSaid : Prop := fnSystemsUptoRow.holds Try.pinned (OpenSpec.upto fnSystemsSpec)

/-- 'laws.FnCombined', WHERE WHAT IT READS IS OF BULK AT MOST 1048576: true; the input reads as it did. -/
def fnCombinedUptoRow : OpenClaim := { program := "ytghiljjkaiggfaa", sum := "926f851d285282500779d3499001d0e3c8547c1739a431a16e08cdf10c9205ba", func := "loop.example/g00515/laws.FnCombined", spec := "fnCombined", unfollowed := true, recurses := true, apart := false, narrowed := true }
def FnCombinedUptoSaid : Prop := fnCombinedUptoRow.holds Try.pinned (OpenSpec.upto fnCombinedSpec)

/-- 'laws.FnExactCheckFarkas', WHERE WHAT IT READS IS OF BULK AT MOST 1048576: true; the input reads as it did. -/
def fnExactCheckFarkasUptoRow : OpenClaim := { program := "ytghiljjkaiggfaa", sum := "926f851d285282500779d3499001d0e3c8547c1739a431a16e08cdf10c9205ba", func := "loop.example/g00515/laws.FnExactCheckFarkas", spec := "fnExactCheckFarkas", unfollowed := true, recurses := true, apart := false, narrowed := true }
def FnExactCheckFarkasUptoSaid : Prop := fnExactCheckFarkasUptoRow.holds Try.pinned (OpenSpec.upto fnExactCheckFarkasSpec)

/-- 'laws.FnExactSortNames', WHERE WHAT IT READS IS OF BULK AT MOST 1048576: true; the input reads as it did. -/
def fnExactSortNamesUptoRow : OpenClaim := { program := "ytghiljjkaiggfaa", sum := "926f851d285282500779d3499001d0e3c8547c1739a431a16e08cdf10c9205ba", func := "loop.example/g00515/laws.FnExactSortNames", spec := "fnExactSortNames", recurses := true, apart := false, narrowed := true }
def FnExactSortNamesUptoSaid : Prop := fnExactSortNamesUptoRow.holds Try.pinned (OpenSpec.upto fnExactSortNamesSpec)

/-- 'laws.FnExactEntails', WHERE WHAT IT READS IS OF BULK AT MOST 1048576: true; the input reads as it did. -/
def fnExactEntailsUptoRow : OpenClaim := { program := "ytghiljjkaiggfaa", sum := "926f851d285282500779d3499001d0e3c8547c1739a431a16e08cdf10c9205ba", func := "loop.example/g00515/laws.FnExactEntails", spec := "fnExactEntails", unfollowed := true, recurses := true, apart := false, narrowed := true }
def FnExactEntailsUptoSaid : Prop := fnExactEntailsUptoRow.holds Try.pinned (OpenSpec.upto fnExactEntailsSpec)

end Rows
end Go.Proofs.Ytghiljjkaiggfaa
