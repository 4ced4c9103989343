/-
  No cell of these rows narrows 'for every input' (looked for: loops, veiled, ifaces, maps, wideKeys, modest, calm, conditions, laid).
  DERIVED. THE GIVEN ROWS OF THIS SEAT. 12 by the template 'for every input the law returns true; each argument reads behind the call as it read before'; 0 by the template 'total and deterministic' (their statements: YtjjcdiddpdjboaaTotals.lean).
  GIVEN WITH THE SEED: the statements are not yours to turn. If you find one false, say at which input.
  Laid BY PROGRAM, IN A SANDBOX (cutbox-rows.mjs): the forced cells as the released guide's own fill.sh prints them over the translation a5224249b9272311… (all of the seat's roots in one cut). By AI agents, Wed Nov 11 2026. No macro, syntax, notation, axiom, sorry.
-/
import Derived.Test.YtjjcdiddpdjboaaChecked
import GoSem.Claim
import GoSem.ClaimJoined
import GoSem.ClaimMapViews
import Derived.JoinedTies
import Derived.KernelRfl
namespace Go.Proofs.Ytjjcdiddpdjboaa
/- THE CELL 'sum', in the pinned program and in every row, IS THE sha256 OF THE DUMP (.gsa) THAT YtjjcdiddpdjboaaProg.lean LOADS. Nothing in Lean hashes anything: it is a label: what it is worth is what the hold of that sum in a sandbox is worth. -/
noncomputable def Try.pinned : Pinned := { name := "ytjjcdiddpdjboaa", sum := "a5224249b9272311fdad72878cda8659c91019eb84be73cedc38e4a70ec0a91a", checked := Try.checked }
namespace Rows
def none {H : Type} : Left H := { results := [], args := [] }

/-- 'laws.FnExactAllDistinct': WHATEVER THE INPUT: true; the input reads as it did. -/
def fnExactAllDistinctSpec : ChangeSpec := { name := "fnExactAllDistinct", fn := fun _ => fun
  | [d] => { results := [.lit (.bool true)], args := [d] }
  | _ => none }
def fnExactAllDistinctRow : OpenClaim := { program := "ytjjcdiddpdjboaa", sum := "a5224249b9272311fdad72878cda8659c91019eb84be73cedc38e4a70ec0a91a", func := "loop.example/g00515/laws.FnExactAllDistinct", spec := "fnExactAllDistinct", apart := false }
def FnExactAllDistinctSaid : Prop := fnExactAllDistinctRow.holds Try.pinned (OpenSpec.ofChange fnExactAllDistinctSpec)

/-- ITS FALSE NEIGHBOUR: 'it returns false'. Refute it at one input. -/
def fnExactAllDistinctWrong : ChangeSpec := { name := "fnExactAllDistinct", fn := fun _ => fun
  | [d] => { results := [.lit (.bool false)], args := [d] }
  | _ => none }
def FnExactAllDistinctWrongFalsely : Prop := fnExactAllDistinctRow.holds Try.pinned (OpenSpec.ofChange fnExactAllDistinctWrong)

/-- 'laws.FnExactIsConstant': WHATEVER THE INPUT: true; the input reads as it did. -/
def fnExactIsConstantSpec : ChangeSpec := { name := "fnExactIsConstant", fn := fun _ => fun
  | [d] => { results := [.lit (.bool true)], args := [d] }
  | _ => none }
def fnExactIsConstantRow : OpenClaim := { program := "ytjjcdiddpdjboaa", sum := "a5224249b9272311fdad72878cda8659c91019eb84be73cedc38e4a70ec0a91a", func := "loop.example/g00515/laws.FnExactIsConstant", spec := "fnExactIsConstant", unfollowed := true, recurses := true, apart := false }
def FnExactIsConstantSaid : Prop := fnExactIsConstantRow.holds Try.pinned (OpenSpec.ofChange fnExactIsConstantSpec)

/-- ITS FALSE NEIGHBOUR: 'it returns false'. Refute it at one input. -/
def fnExactIsConstantWrong : ChangeSpec := { name := "fnExactIsConstant", fn := fun _ => fun
  | [d] => { results := [.lit (.bool false)], args := [d] }
  | _ => none }
def FnExactIsConstantWrongFalsely : Prop := fnExactIsConstantRow.holds Try.pinned (OpenSpec.ofChange fnExactIsConstantWrong)

/-- 'laws.FnFound': WHATEVER THE INPUT: true; the input reads as it did. -/
def fnFoundSpec : ChangeSpec := { name := "fnFound", fn := fun _ => fun
  | [d] => { results := [.lit (.bool true)], args := [d] }
  | _ => none }
def fnFoundRow : OpenClaim := { program := "ytjjcdiddpdjboaa", sum := "a5224249b9272311fdad72878cda8659c91019eb84be73cedc38e4a70ec0a91a", func := "loop.example/g00515/laws.FnFound", spec := "fnFound", unfollowed := true, recurses := true, apart := false }
def FnFoundSaid : Prop := fnFoundRow.holds Try.pinned (OpenSpec.ofChange fnFoundSpec)

/-- ITS FALSE NEIGHBOUR: 'it returns false'. Refute it at one input. -/
def fnFoundWrong : ChangeSpec := { name := "fnFound", fn := fun _ => fun
  | [d] => { results := [.lit (.bool false)], args := [d] }
  | _ => none }
def FnFoundWrongFalsely : Prop := fnFoundRow.holds Try.pinned (OpenSpec.ofChange fnFoundWrong)

/-- 'laws.FnExactEqualLin': WHATEVER THE INPUT: true; the input reads as it did. -/
def fnExactEqualLinSpec : ChangeSpec := { name := "fnExactEqualLin", fn := fun _ => fun
  | [d1, d2] => { results := [.lit (.bool true)], args := [d1, d2] }
  | _ => none }
def fnExactEqualLinRow : OpenClaim := { program := "ytjjcdiddpdjboaa", sum := "a5224249b9272311fdad72878cda8659c91019eb84be73cedc38e4a70ec0a91a", func := "loop.example/g00515/laws.FnExactEqualLin", spec := "fnExactEqualLin", apart := false }
def FnExactEqualLinSaid : Prop := fnExactEqualLinRow.holds Try.pinned (OpenSpec.ofChange fnExactEqualLinSpec)

/-- ITS FALSE NEIGHBOUR: 'it returns false'. Refute it at one input. -/
def fnExactEqualLinWrong : ChangeSpec := { name := "fnExactEqualLin", fn := fun _ => fun
  | [d1, d2] => { results := [.lit (.bool false)], args := [d1, d2] }
  | _ => none }
def FnExactEqualLinWrongFalsely : Prop := fnExactEqualLinRow.holds Try.pinned (OpenSpec.ofChange fnExactEqualLinWrong)

/-- 'laws.FnExactVarLin': WHATEVER THE INPUT: true; the input reads as it did. -/
def fnExactVarLinSpec : ChangeSpec := { name := "fnExactVarLin", fn := fun _ => fun
  | [d1, d2] => { results := [.lit (.bool true)], args := [d1, d2] }
  | _ => none }
def fnExactVarLinRow : OpenClaim := { program := "ytjjcdiddpdjboaa", sum := "a5224249b9272311fdad72878cda8659c91019eb84be73cedc38e4a70ec0a91a", func := "loop.example/g00515/laws.FnExactVarLin", spec := "fnExactVarLin", apart := false }
def FnExactVarLinSaid : Prop := fnExactVarLinRow.holds Try.pinned (OpenSpec.ofChange fnExactVarLinSpec)

/-- ITS FALSE NEIGHBOUR: 'it returns false'. Refute it at one input. -/
def fnExactVarLinWrong : ChangeSpec := { name := "fnExactVarLin", fn := fun _ => fun
  | [d1, d2] => { results := [.lit (.bool false)], args := [d1, d2] }
  | _ => none }
def FnExactVarLinWrongFalsely : Prop := fnExactVarLinRow.holds Try.pinned (OpenSpec.ofChange fnExactVarLinWrong)

/-- 'laws.FnExactEqualFarkas': WHATEVER THE INPUT: true; the input reads as it did. -/
def fnExactEqualFarkasSpec : ChangeSpec := { name := "fnExactEqualFarkas", fn := fun _ => fun
  | [d1, d2] => { results := [.lit (.bool true)], args := [d1, d2] }
  | _ => none }
def fnExactEqualFarkasRow : OpenClaim := { program := "ytjjcdiddpdjboaa", sum := "a5224249b9272311fdad72878cda8659c91019eb84be73cedc38e4a70ec0a91a", func := "loop.example/g00515/laws.FnExactEqualFarkas", spec := "fnExactEqualFarkas", apart := false }
def FnExactEqualFarkasSaid : Prop := fnExactEqualFarkasRow.holds Try.pinned (OpenSpec.ofChange fnExactEqualFarkasSpec)

/-- ITS FALSE NEIGHBOUR: 'it returns false'. Refute it at one input. -/
def fnExactEqualFarkasWrong : ChangeSpec := { name := "fnExactEqualFarkas", fn := fun _ => fun
  | [d1, d2] => { results := [.lit (.bool false)], args := [d1, d2] }
  | _ => none }
def FnExactEqualFarkasWrongFalsely : Prop := fnExactEqualFarkasRow.holds Try.pinned (OpenSpec.ofChange fnExactEqualFarkasWrong)

/-- 'laws.FnExactIsValidLin': WHATEVER THE INPUT: true; the input reads as it did. -/
def fnExactIsValidLinSpec : ChangeSpec := { name := "fnExactIsValidLin", fn := fun _ => fun
  | [d1, d2] => { results := [.lit (.bool true)], args := [d1, d2] }
  | _ => none }
def fnExactIsValidLinRow : OpenClaim := { program := "ytjjcdiddpdjboaa", sum := "a5224249b9272311fdad72878cda8659c91019eb84be73cedc38e4a70ec0a91a", func := "loop.example/g00515/laws.FnExactIsValidLin", spec := "fnExactIsValidLin", unfollowed := true, recurses := true, apart := false }
def FnExactIsValidLinSaid : Prop := fnExactIsValidLinRow.holds Try.pinned (OpenSpec.ofChange fnExactIsValidLinSpec)

/-- ITS FALSE NEIGHBOUR: 'it returns false'. Refute it at one input. -/
def fnExactIsValidLinWrong : ChangeSpec := { name := "fnExactIsValidLin", fn := fun _ => fun
  | [d1, d2] => { results := [.lit (.bool false)], args := [d1, d2] }
  | _ => none }
def FnExactIsValidLinWrongFalsely : Prop := fnExactIsValidLinRow.holds Try.pinned (OpenSpec.ofChange fnExactIsValidLinWrong)

/-- 'laws.FnExactWithout': WHATEVER THE INPUT: true; the input reads as it did. -/
def fnExactWithoutSpec : ChangeSpec := { name := "fnExactWithout", fn := fun _ => fun
  | [d1, d2] => { results := [.lit (.bool true)], args := [d1, d2] }
  | _ => none }
def fnExactWithoutRow : OpenClaim := { program := "ytjjcdiddpdjboaa", sum := "a5224249b9272311fdad72878cda8659c91019eb84be73cedc38e4a70ec0a91a", func := "loop.example/g00515/laws.FnExactWithout", spec := "fnExactWithout", apart := false }
def FnExactWithoutSaid : Prop := fnExactWithoutRow.holds Try.pinned (OpenSpec.ofChange fnExactWithoutSpec)

/-- ITS FALSE NEIGHBOUR: 'it returns false'. Refute it at one input. -/
def fnExactWithoutWrong : ChangeSpec := { name := "fnExactWithout", fn := fun _ => fun
  | [d1, d2] => { results := [.lit (.bool false)], args := [d1, d2] }
  | _ => none }
def FnExactWithoutWrongFalsely : Prop := fnExactWithoutRow.holds Try.pinned (OpenSpec.ofChange fnExactWithoutWrong)

/-- 'laws.FnExactEvalLin': WHATEVER THE INPUT: true; the input reads as it did. -/
def fnExactEvalLinSpec : ChangeSpec := { name := "fnExactEvalLin", fn := fun _ => fun
  | [d1, d2] => { results := [.lit (.bool true)], args := [d1, d2] }
  | _ => none }
def fnExactEvalLinRow : OpenClaim := { program := "ytjjcdiddpdjboaa", sum := "a5224249b9272311fdad72878cda8659c91019eb84be73cedc38e4a70ec0a91a", func := "loop.example/g00515/laws.FnExactEvalLin", spec := "fnExactEvalLin", unfollowed := true, recurses := true, apart := false }
def FnExactEvalLinSaid : Prop := fnExactEvalLinRow.holds Try.pinned (OpenSpec.ofChange fnExactEvalLinSpec)

/-- ITS FALSE NEIGHBOUR: 'it returns false'. Refute it at one input. -/
def fnExactEvalLinWrong : ChangeSpec := { name := "fnExactEvalLin", fn := fun _ => fun
  | [d1, d2] => { results := [.lit (.bool false)], args := [d1, d2] }
  | _ => none }
def FnExactEvalLinWrongFalsely : Prop := fnExactEvalLinRow.holds Try.pinned (OpenSpec.ofChange fnExactEvalLinWrong)

/-- 'laws.FnEntailed': WHATEVER THE INPUT: true; the input reads as it did. -/
def fnEntailedSpec : ChangeSpec := { name := "fnEntailed", fn := fun _ => fun
  | [d] => { results := [.lit (.bool true)], args := [d] }
  | _ => none }
def fnEntailedRow : OpenClaim := { program := "ytjjcdiddpdjboaa", sum := "a5224249b9272311fdad72878cda8659c91019eb84be73cedc38e4a70ec0a91a", func := "loop.example/g00515/laws.FnEntailed", spec := "fnEntailed", unfollowed := true, recurses := true, apart := false }
def FnEntailedSaid : Prop := fnEntailedRow.holds Try.pinned (OpenSpec.ofChange fnEntailedSpec)

/-- ITS FALSE NEIGHBOUR: 'it returns false'. Refute it at one input. -/
def fnEntailedWrong : ChangeSpec := { name := "fnEntailed", fn := fun _ => fun
  | [d] => { results := [.lit (.bool false)], args := [d] }
  | _ => none }
def FnEntailedWrongFalsely : Prop := fnEntailedRow.holds Try.pinned (OpenSpec.ofChange fnEntailedWrong)

/-- 'laws.FnExactJoin': WHATEVER THE INPUT: true; the input reads as it did. -/
def fnExactJoinSpec : ChangeSpec := { name := "fnExactJoin", fn := fun _ => fun
  | [d1, d2] => { results := [.lit (.bool true)], args := [d1, d2] }
  | _ => none }
def fnExactJoinRow : OpenClaim := { program := "ytjjcdiddpdjboaa", sum := "a5224249b9272311fdad72878cda8659c91019eb84be73cedc38e4a70ec0a91a", func := "loop.example/g00515/laws.FnExactJoin", spec := "fnExactJoin", inPlace := ["internal/abi.NoEscape", "internal/bytealg.MakeNoZero"], apart := false }
def FnExactJoinSaid : Prop := fnExactJoinRow.holds Try.pinned (OpenSpec.ofChange fnExactJoinSpec)

/-- ITS FALSE NEIGHBOUR: 'it returns false'. Refute it at one input. -/
def fnExactJoinWrong : ChangeSpec := { name := "fnExactJoin", fn := fun _ => fun
  | [d1, d2] => { results := [.lit (.bool false)], args := [d1, d2] }
  | _ => none }
def FnExactJoinWrongFalsely : Prop := fnExactJoinRow.holds Try.pinned (OpenSpec.ofChange fnExactJoinWrong)

/-- 'laws.FnArithmetic': WHATEVER THE INPUT: true; the input reads as it did. -/
def fnArithmeticSpec : ChangeSpec := { name := "fnArithmetic", fn := fun _ => fun
  | [d] => { results := [.lit (.bool true)], args := [d] }
  | _ => none }
def fnArithmeticRow : OpenClaim := { program := "ytjjcdiddpdjboaa", sum := "a5224249b9272311fdad72878cda8659c91019eb84be73cedc38e4a70ec0a91a", func := "loop.example/g00515/laws.FnArithmetic", spec := "fnArithmetic", apart := false }
def FnArithmeticSaid : Prop := fnArithmeticRow.holds Try.pinned (OpenSpec.ofChange fnArithmeticSpec)

/-- ITS FALSE NEIGHBOUR: 'it returns false'. Refute it at one input. -/
def fnArithmeticWrong : ChangeSpec := { name := "fnArithmetic", fn := fun _ => fun
  | [d] => { results := [.lit (.bool false)], args := [d] }
  | _ => none }
def FnArithmeticWrongFalsely : Prop := fnArithmeticRow.holds Try.pinned (OpenSpec.ofChange fnArithmeticWrong)

/- THE SECOND FORM. 'bulk': how many values and letters a reading holds, each counted each time it is reached (what is shared counts as often as it is met; a slice's spare places count too). A statement '..UptoSaid' is the law's where the arguments, and the package variables that the reading takes, are together of bulk at most 1048576: NARROWER than '..Said'. Prove '..Said' where nothing that the law and all that it calls make is longer than what came in: it says more and counts as full. Else prove '..UptoSaid'. A law counts once. -/
mutual
def uptoBulk {H : Type} : DataW H → Nat
  | .lit (.string bytes) => bytes.length + 1
  | .lit _ => 1
  | .nil => 1
  | .ptr d => uptoBulk d + 1
  | .slice elems spare => uptoBulkAll elems + uptoBulkAll spare + 1
  | .agg parts => uptoBulkAll parts + 1
  | .iface _ d => uptoBulk d + 1
  | .map entries => uptoBulkEntries entries + 1
  | .held _ => 1
def uptoBulkAll {H : Type} : List (DataW H) → Nat
  | [] => 0
  | d :: r => uptoBulk d + uptoBulkAll r
def uptoBulkEntries {H : Type} : List (Lit × DataW H) → Nat
  | [] => 0
  | x :: r => uptoBulkEntry x + uptoBulkEntries r
def uptoBulkEntry {H : Type} : Lit × DataW H → Nat
  | (.string bytes, d) => bytes.length + uptoBulk d + 1
  | (_, d) => uptoBulk d + 1
 end
def uptoSmall : (H : Type) → List (DataW H) → Bool := fun _ ds => decide (uptoBulkAll ds ≤ 1048576)
def OpenSpec.upto (s : _root_.Go.ChangeSpec) : _root_.Go.OpenSpec := { _root_.Go.OpenSpec.ofChange s with cond := some uptoSmall }

/-- 'laws.FnExactAllDistinct', WHERE WHAT IT READS IS OF BULK AT MOST 1048576: true; the input reads as it did. -/
def fnExactAllDistinctUptoRow : OpenClaim := { program := "ytjjcdiddpdjboaa", sum := "a5224249b9272311fdad72878cda8659c91019eb84be73cedc38e4a70ec0a91a", func := "loop.example/g00515/laws.FnExactAllDistinct", spec := "fnExactAllDistinct", apart := false, narrowed := true }
def FnExactAllDistinctUptoSaid : Prop := fnExactAllDistinctUptoRow.holds Try.pinned (OpenSpec.upto fnExactAllDistinctSpec)

/-- 'laws.FnExactIsConstant', WHERE WHAT IT READS IS OF BULK AT MOST 1048576: true; the input reads as it did. -/
def fnExactIsConstantUptoRow : OpenClaim := { program := "ytjjcdiddpdjboaa", sum := "a5224249b9272311fdad72878cda8659c91019eb84be73cedc38e4a70ec0a91a", func := "loop.example/g00515/laws.FnExactIsConstant", spec := "fnExactIsConstant", unfollowed := true, recurses := true, apart := false, narrowed := true }
def FnExactIsConstantUptoSaid : Prop := fnExactIsConstantUptoRow.holds Try.pinned (OpenSpec.upto fnExactIsConstantSpec)

/-- 'laws.FnFound', WHERE WHAT IT READS IS OF BULK AT MOST 1048576: true; the input reads as it did. -/
def fnFoundUptoRow : OpenClaim := { program := "ytjjcdiddpdjboaa", sum := "a5224249b9272311fdad72878cda8659c91019eb84be73cedc38e4a70ec0a91a", func := "loop.example/g00515/laws.FnFound", spec := "fnFound", unfollowed := true, recurses := true, apart := false, narrowed := true }
def FnFoundUptoSaid : Prop := fnFoundUptoRow.holds Try.pinned (OpenSpec.upto fnFoundSpec)

/-- 'laws.FnExactEqualLin', WHERE WHAT IT READS IS OF BULK AT MOST 1048576: true; the input reads as it did. -/
def fnExactEqualLinUptoRow : OpenClaim := { program := "ytjjcdiddpdjboaa", sum := "a5224249b9272311fdad72878cda8659c91019eb84be73cedc38e4a70ec0a91a", func := "loop.example/g00515/laws.FnExactEqualLin", spec := "fnExactEqualLin", apart := false, narrowed := true }
def FnExactEqualLinUptoSaid : Prop := fnExactEqualLinUptoRow.holds Try.pinned (OpenSpec.upto fnExactEqualLinSpec)

/-- 'laws.FnExactVarLin', WHERE WHAT IT READS IS OF BULK AT MOST 1048576: true; the input reads as it did. -/
def fnExactVarLinUptoRow : OpenClaim := { program := "ytjjcdiddpdjboaa", sum := "a5224249b9272311fdad72878cda8659c91019eb84be73cedc38e4a70ec0a91a", func := "loop.example/g00515/laws.FnExactVarLin", spec := "fnExactVarLin", apart := false, narrowed := true }
def FnExactVarLinUptoSaid : Prop := fnExactVarLinUptoRow.holds Try.pinned (OpenSpec.upto fnExactVarLinSpec)

/-- 'laws.FnExactEqualFarkas', WHERE WHAT IT READS IS OF BULK AT MOST 1048576: true; the input reads as it did. -/
def fnExactEqualFarkasUptoRow : OpenClaim := { program := "ytjjcdiddpdjboaa", sum := "a5224249b9272311fdad72878cda8659c91019eb84be73cedc38e4a70ec0a91a", func := "loop.example/g00515/laws.FnExactEqualFarkas", spec := "fnExactEqualFarkas", apart := false, narrowed := true }
def FnExactEqualFarkasUptoSaid : Prop := fnExactEqualFarkasUptoRow.holds Try.pinned (OpenSpec.upto fnExactEqualFarkasSpec)

/-- 'laws.FnExactIsValidLin', WHERE WHAT IT READS IS OF BULK AT MOST 1048576: true; the input reads as it did. -/
def fnExactIsValidLinUptoRow : OpenClaim := { program := "ytjjcdiddpdjboaa", sum := "a5224249b9272311fdad72878cda8659c91019eb84be73cedc38e4a70ec0a91a", func := "loop.example/g00515/laws.FnExactIsValidLin", spec := "fnExactIsValidLin", unfollowed := true, recurses := true, apart := false, narrowed := true }
def FnExactIsValidLinUptoSaid : Prop := fnExactIsValidLinUptoRow.holds Try.pinned (OpenSpec.upto fnExactIsValidLinSpec)

/-- 'laws.FnExactWithout', WHERE WHAT IT READS IS OF BULK AT MOST 1048576: true; the input reads as it did. -/
def fnExactWithoutUptoRow : OpenClaim := { program := "ytjjcdiddpdjboaa", sum := "a5224249b9272311fdad72878cda8659c91019eb84be73cedc38e4a70ec0a91a", func := "loop.example/g00515/laws.FnExactWithout", spec := "fnExactWithout", apart := false, narrowed := true }
def FnExactWithoutUptoSaid : Prop := fnExactWithoutUptoRow.holds Try.pinned (OpenSpec.upto fnExactWithoutSpec)

/-- 'laws.FnExactEvalLin', WHERE WHAT IT READS IS OF BULK AT MOST 1048576: true; the input reads as it did. -/
def fnExactEvalLinUptoRow : OpenClaim := { program := "ytjjcdiddpdjboaa", sum := "a5224249b9272311fdad72878cda8659c91019eb84be73cedc38e4a70ec0a91a", func := "loop.example/g00515/laws.FnExactEvalLin", spec := "fnExactEvalLin", unfollowed := true, recurses := true, apart := false, narrowed := true }
def FnExactEvalLinUptoSaid : Prop := fnExactEvalLinUptoRow.holds Try.pinned (OpenSpec.upto fnExactEvalLinSpec)

/-- 'laws.FnEntailed', WHERE WHAT IT READS IS OF BULK AT MOST 1048576: true; the input reads as it did. -/
def fnEntailedUptoRow : OpenClaim := { program := "ytjjcdiddpdjboaa", sum := "a5224249b9272311fdad72878cda8659c91019eb84be73cedc38e4a70ec0a91a", func := "loop.example/g00515/laws.FnEntailed", spec := "fnEntailed", unfollowed := true, recurses := true, apart := false, narrowed := true }
def FnEntailedUptoSaid : Prop := fnEntailedUptoRow.holds Try.pinned (OpenSpec.upto fnEntailedSpec)

/-- 'laws.FnExactJoin', WHERE WHAT IT READS IS OF BULK AT MOST 1048576: true; the input reads as it did. -/
def fnExactJoinUptoRow : OpenClaim := { program := "ytjjcdiddpdjboaa", sum := "a5224249b9272311fdad72878cda8659c91019eb84be73cedc38e4a70ec0a91a", func := "loop.example/g00515/laws.FnExactJoin", spec := "fnExactJoin", inPlace := ["internal/abi.NoEscape", "internal/bytealg.MakeNoZero"], apart := false, narrowed := true }
def FnExactJoinUptoSaid : Prop := fnExactJoinUptoRow.holds Try.pinned (OpenSpec.upto fnExactJoinSpec)

/-- 'laws.FnArithmetic', WHERE WHAT IT READS IS OF BULK AT MOST 1048576: true; the input reads as it did. -/
def fnArithmeticUptoRow : OpenClaim := { program := "ytjjcdiddpdjboaa", sum := "a5224249b9272311fdad72878cda8659c91019eb84be73cedc38e4a70ec0a91a", func := "loop.example/g00515/laws.FnArithmetic", spec := "fnArithmetic", apart := false, narrowed := true }
def FnArithmeticUptoSaid : Prop := fnArithmeticUptoRow.holds Try.pinned (OpenSpec.upto fnArithmeticSpec)

end Rows
end Go.Proofs.Ytjjcdiddpdjboaa
