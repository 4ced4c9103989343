/-
  No cell of these rows narrows 'for every input' (looked for: loops, veiled, ifaces, maps, wideKeys, modest, calm, conditions, laid).
  DERIVED. THE GIVEN ROWS OF THIS SEAT. 12 by the template 'for every input the law returns true; each argument reads behind the call as it read before'; 0 by the template 'total and deterministic' (their statements: YtelgmnlkkhikfaaTotals.lean).
  GIVEN WITH THE SEED: the statements are not yours to turn. If you find one false, say at which input.
  Laid BY PROGRAM, IN A SANDBOX (cutbox-rows.mjs): the forced cells as the released guide's own fill.sh prints them over the translation ef5d12f6dbf0792d… (all of the seat's roots in one cut). By AI agents, Wed Nov 11 2026. No macro, syntax, notation, axiom, sorry.
-/
import Derived.Test.YtelgmnlkkhikfaaChecked
import GoSem.Claim
import GoSem.ClaimJoined
import GoSem.ClaimMapViews
import Derived.JoinedTies
import Derived.KernelRfl
namespace Go.Proofs.Ytelgmnlkkhikfaa
/- THE CELL 'sum', in the pinned program and in every row, IS THE sha256 OF THE DUMP (.gsa) THAT YtelgmnlkkhikfaaProg.lean LOADS. Nothing in Lean hashes anything: it is a label: what it is worth is what the hold of that sum in a sandbox is worth. -/
noncomputable def Try.pinned : Pinned := { name := "ytelgmnlkkhikfaa", sum := "ef5d12f6dbf0792de0ff9d6b0d0c540d5d569cd59f3dd3ce300121cabe487a21", checked := Try.checked }
namespace Rows
def none {H : Type} : Left H := { results := [], args := [] }

/-- 'laws.FnExactConstants': WHATEVER THE INPUT: true; the input reads as it did. -/
def fnExactConstantsSpec : ChangeSpec := { name := "fnExactConstants", fn := fun _ => fun
  | [] => { results := [.lit (.bool true)], args := [] }
  | _ => none }
def fnExactConstantsRow : OpenClaim := { program := "ytelgmnlkkhikfaa", sum := "ef5d12f6dbf0792de0ff9d6b0d0c540d5d569cd59f3dd3ce300121cabe487a21", func := "loop.example/g00515/laws.FnExactConstants", spec := "fnExactConstants", apart := false }
def FnExactConstantsSaid : Prop := fnExactConstantsRow.holds Try.pinned (OpenSpec.ofChange fnExactConstantsSpec)

/-- ITS FALSE NEIGHBOUR: 'it returns false'. Refute it at one input. -/
def fnExactConstantsWrong : ChangeSpec := { name := "fnExactConstants", fn := fun _ => fun
  | [] => { results := [.lit (.bool false)], args := [] }
  | _ => none }
def FnExactConstantsWrongFalsely : Prop := fnExactConstantsRow.holds Try.pinned (OpenSpec.ofChange fnExactConstantsWrong)

/-- 'laws.FnExactFits': WHATEVER THE INPUT: true; the input reads as it did. -/
def fnExactFitsSpec : ChangeSpec := { name := "fnExactFits", fn := fun _ => fun
  | [d] => { results := [.lit (.bool true)], args := [d] }
  | _ => none }
def fnExactFitsRow : OpenClaim := { program := "ytelgmnlkkhikfaa", sum := "ef5d12f6dbf0792de0ff9d6b0d0c540d5d569cd59f3dd3ce300121cabe487a21", func := "loop.example/g00515/laws.FnExactFits", spec := "fnExactFits", apart := false }
def FnExactFitsSaid : Prop := fnExactFitsRow.holds Try.pinned (OpenSpec.ofChange fnExactFitsSpec)

/-- ITS FALSE NEIGHBOUR: 'it returns false'. Refute it at one input. -/
def fnExactFitsWrong : ChangeSpec := { name := "fnExactFits", fn := fun _ => fun
  | [d] => { results := [.lit (.bool false)], args := [d] }
  | _ => none }
def FnExactFitsWrongFalsely : Prop := fnExactFitsRow.holds Try.pinned (OpenSpec.ofChange fnExactFitsWrong)

/-- 'laws.FnExactAddLimited': WHATEVER THE INPUT: true; the input reads as it did. -/
def fnExactAddLimitedSpec : ChangeSpec := { name := "fnExactAddLimited", fn := fun _ => fun
  | [d1, d2] => { results := [.lit (.bool true)], args := [d1, d2] }
  | _ => none }
def fnExactAddLimitedRow : OpenClaim := { program := "ytelgmnlkkhikfaa", sum := "ef5d12f6dbf0792de0ff9d6b0d0c540d5d569cd59f3dd3ce300121cabe487a21", func := "loop.example/g00515/laws.FnExactAddLimited", spec := "fnExactAddLimited", apart := false }
def FnExactAddLimitedSaid : Prop := fnExactAddLimitedRow.holds Try.pinned (OpenSpec.ofChange fnExactAddLimitedSpec)

/-- ITS FALSE NEIGHBOUR: 'it returns false'. Refute it at one input. -/
def fnExactAddLimitedWrong : ChangeSpec := { name := "fnExactAddLimited", fn := fun _ => fun
  | [d1, d2] => { results := [.lit (.bool false)], args := [d1, d2] }
  | _ => none }
def FnExactAddLimitedWrongFalsely : Prop := fnExactAddLimitedRow.holds Try.pinned (OpenSpec.ofChange fnExactAddLimitedWrong)

/-- 'laws.FnExactMulLimited': WHATEVER THE INPUT: true; the input reads as it did. -/
def fnExactMulLimitedSpec : ChangeSpec := { name := "fnExactMulLimited", fn := fun _ => fun
  | [d1, d2] => { results := [.lit (.bool true)], args := [d1, d2] }
  | _ => none }
def fnExactMulLimitedRow : OpenClaim := { program := "ytelgmnlkkhikfaa", sum := "ef5d12f6dbf0792de0ff9d6b0d0c540d5d569cd59f3dd3ce300121cabe487a21", func := "loop.example/g00515/laws.FnExactMulLimited", spec := "fnExactMulLimited", apart := false }
def FnExactMulLimitedSaid : Prop := fnExactMulLimitedRow.holds Try.pinned (OpenSpec.ofChange fnExactMulLimitedSpec)

/-- ITS FALSE NEIGHBOUR: 'it returns false'. Refute it at one input. -/
def fnExactMulLimitedWrong : ChangeSpec := { name := "fnExactMulLimited", fn := fun _ => fun
  | [d1, d2] => { results := [.lit (.bool false)], args := [d1, d2] }
  | _ => none }
def FnExactMulLimitedWrongFalsely : Prop := fnExactMulLimitedRow.holds Try.pinned (OpenSpec.ofChange fnExactMulLimitedWrong)

/-- 'laws.FnExactIsReserved': WHATEVER THE INPUT: true; the input reads as it did. -/
def fnExactIsReservedSpec : ChangeSpec := { name := "fnExactIsReserved", fn := fun _ => fun
  | [d] => { results := [.lit (.bool true)], args := [d] }
  | _ => none }
def fnExactIsReservedRow : OpenClaim := { program := "ytelgmnlkkhikfaa", sum := "ef5d12f6dbf0792de0ff9d6b0d0c540d5d569cd59f3dd3ce300121cabe487a21", func := "loop.example/g00515/laws.FnExactIsReserved", spec := "fnExactIsReserved", apart := false }
def FnExactIsReservedSaid : Prop := fnExactIsReservedRow.holds Try.pinned (OpenSpec.ofChange fnExactIsReservedSpec)

/-- ITS FALSE NEIGHBOUR: 'it returns false'. Refute it at one input. -/
def fnExactIsReservedWrong : ChangeSpec := { name := "fnExactIsReserved", fn := fun _ => fun
  | [d] => { results := [.lit (.bool false)], args := [d] }
  | _ => none }
def FnExactIsReservedWrongFalsely : Prop := fnExactIsReservedRow.holds Try.pinned (OpenSpec.ofChange fnExactIsReservedWrong)

/-- 'laws.FnExactFloorDiv': WHATEVER THE INPUT: true; the input reads as it did. -/
def fnExactFloorDivSpec : ChangeSpec := { name := "fnExactFloorDiv", fn := fun _ => fun
  | [d1, d2] => { results := [.lit (.bool true)], args := [d1, d2] }
  | _ => none }
def fnExactFloorDivRow : OpenClaim := { program := "ytelgmnlkkhikfaa", sum := "ef5d12f6dbf0792de0ff9d6b0d0c540d5d569cd59f3dd3ce300121cabe487a21", func := "loop.example/g00515/laws.FnExactFloorDiv", spec := "fnExactFloorDiv", apart := false }
def FnExactFloorDivSaid : Prop := fnExactFloorDivRow.holds Try.pinned (OpenSpec.ofChange fnExactFloorDivSpec)

/-- ITS FALSE NEIGHBOUR: 'it returns false'. Refute it at one input. -/
def fnExactFloorDivWrong : ChangeSpec := { name := "fnExactFloorDiv", fn := fun _ => fun
  | [d1, d2] => { results := [.lit (.bool false)], args := [d1, d2] }
  | _ => none }
def FnExactFloorDivWrongFalsely : Prop := fnExactFloorDivRow.holds Try.pinned (OpenSpec.ofChange fnExactFloorDivWrong)

/-- 'laws.FnFarkas': WHATEVER THE INPUT: true; the input reads as it did. -/
def fnFarkasSpec : ChangeSpec := { name := "fnFarkas", fn := fun _ => fun
  | [d] => { results := [.lit (.bool true)], args := [d] }
  | _ => none }
def fnFarkasRow : OpenClaim := { program := "ytelgmnlkkhikfaa", sum := "ef5d12f6dbf0792de0ff9d6b0d0c540d5d569cd59f3dd3ce300121cabe487a21", func := "loop.example/g00515/laws.FnFarkas", spec := "fnFarkas", unfollowed := true, recurses := true, apart := false }
def FnFarkasSaid : Prop := fnFarkasRow.holds Try.pinned (OpenSpec.ofChange fnFarkasSpec)

/-- ITS FALSE NEIGHBOUR: 'it returns false'. Refute it at one input. -/
def fnFarkasWrong : ChangeSpec := { name := "fnFarkas", fn := fun _ => fun
  | [d] => { results := [.lit (.bool false)], args := [d] }
  | _ => none }
def FnFarkasWrongFalsely : Prop := fnFarkasRow.holds Try.pinned (OpenSpec.ofChange fnFarkasWrong)

/-- 'laws.FnExactGcd': WHATEVER THE INPUT: true; the input reads as it did. -/
def fnExactGcdSpec : ChangeSpec := { name := "fnExactGcd", fn := fun _ => fun
  | [d1, d2] => { results := [.lit (.bool true)], args := [d1, d2] }
  | _ => none }
def fnExactGcdRow : OpenClaim := { program := "ytelgmnlkkhikfaa", sum := "ef5d12f6dbf0792de0ff9d6b0d0c540d5d569cd59f3dd3ce300121cabe487a21", func := "loop.example/g00515/laws.FnExactGcd", spec := "fnExactGcd", apart := false }
def FnExactGcdSaid : Prop := fnExactGcdRow.holds Try.pinned (OpenSpec.ofChange fnExactGcdSpec)

/-- ITS FALSE NEIGHBOUR: 'it returns false'. Refute it at one input. -/
def fnExactGcdWrong : ChangeSpec := { name := "fnExactGcd", fn := fun _ => fun
  | [d1, d2] => { results := [.lit (.bool false)], args := [d1, d2] }
  | _ => none }
def FnExactGcdWrongFalsely : Prop := fnExactGcdRow.holds Try.pinned (OpenSpec.ofChange fnExactGcdWrong)

/-- 'laws.FnExactIsValidName': WHATEVER THE INPUT: true; the input reads as it did. -/
def fnExactIsValidNameSpec : ChangeSpec := { name := "fnExactIsValidName", fn := fun _ => fun
  | [d] => { results := [.lit (.bool true)], args := [d] }
  | _ => none }
def fnExactIsValidNameRow : OpenClaim := { program := "ytelgmnlkkhikfaa", sum := "ef5d12f6dbf0792de0ff9d6b0d0c540d5d569cd59f3dd3ce300121cabe487a21", func := "loop.example/g00515/laws.FnExactIsValidName", spec := "fnExactIsValidName", apart := false }
def FnExactIsValidNameSaid : Prop := fnExactIsValidNameRow.holds Try.pinned (OpenSpec.ofChange fnExactIsValidNameSpec)

/-- ITS FALSE NEIGHBOUR: 'it returns false'. Refute it at one input. -/
def fnExactIsValidNameWrong : ChangeSpec := { name := "fnExactIsValidName", fn := fun _ => fun
  | [d] => { results := [.lit (.bool false)], args := [d] }
  | _ => none }
def FnExactIsValidNameWrongFalsely : Prop := fnExactIsValidNameRow.holds Try.pinned (OpenSpec.ofChange fnExactIsValidNameWrong)

/-- 'laws.FnExactIsListName': WHATEVER THE INPUT: true; the input reads as it did. -/
def fnExactIsListNameSpec : ChangeSpec := { name := "fnExactIsListName", fn := fun _ => fun
  | [d] => { results := [.lit (.bool true)], args := [d] }
  | _ => none }
def fnExactIsListNameRow : OpenClaim := { program := "ytelgmnlkkhikfaa", sum := "ef5d12f6dbf0792de0ff9d6b0d0c540d5d569cd59f3dd3ce300121cabe487a21", func := "loop.example/g00515/laws.FnExactIsListName", spec := "fnExactIsListName", apart := false }
def FnExactIsListNameSaid : Prop := fnExactIsListNameRow.holds Try.pinned (OpenSpec.ofChange fnExactIsListNameSpec)

/-- ITS FALSE NEIGHBOUR: 'it returns false'. Refute it at one input. -/
def fnExactIsListNameWrong : ChangeSpec := { name := "fnExactIsListName", fn := fun _ => fun
  | [d] => { results := [.lit (.bool false)], args := [d] }
  | _ => none }
def FnExactIsListNameWrongFalsely : Prop := fnExactIsListNameRow.holds Try.pinned (OpenSpec.ofChange fnExactIsListNameWrong)

/-- 'laws.FnExactIndexOf': WHATEVER THE INPUT: true; the input reads as it did. -/
def fnExactIndexOfSpec : ChangeSpec := { name := "fnExactIndexOf", fn := fun _ => fun
  | [d1, d2] => { results := [.lit (.bool true)], args := [d1, d2] }
  | _ => none }
def fnExactIndexOfRow : OpenClaim := { program := "ytelgmnlkkhikfaa", sum := "ef5d12f6dbf0792de0ff9d6b0d0c540d5d569cd59f3dd3ce300121cabe487a21", func := "loop.example/g00515/laws.FnExactIndexOf", spec := "fnExactIndexOf", apart := false }
def FnExactIndexOfSaid : Prop := fnExactIndexOfRow.holds Try.pinned (OpenSpec.ofChange fnExactIndexOfSpec)

/-- ITS FALSE NEIGHBOUR: 'it returns false'. Refute it at one input. -/
def fnExactIndexOfWrong : ChangeSpec := { name := "fnExactIndexOf", fn := fun _ => fun
  | [d1, d2] => { results := [.lit (.bool false)], args := [d1, d2] }
  | _ => none }
def FnExactIndexOfWrongFalsely : Prop := fnExactIndexOfRow.holds Try.pinned (OpenSpec.ofChange fnExactIndexOfWrong)

/-- 'laws.FnExactConstLin': WHATEVER THE INPUT: true; the input reads as it did. -/
def fnExactConstLinSpec : ChangeSpec := { name := "fnExactConstLin", fn := fun _ => fun
  | [d1, d2] => { results := [.lit (.bool true)], args := [d1, d2] }
  | _ => none }
def fnExactConstLinRow : OpenClaim := { program := "ytelgmnlkkhikfaa", sum := "ef5d12f6dbf0792de0ff9d6b0d0c540d5d569cd59f3dd3ce300121cabe487a21", func := "loop.example/g00515/laws.FnExactConstLin", spec := "fnExactConstLin", apart := false }
def FnExactConstLinSaid : Prop := fnExactConstLinRow.holds Try.pinned (OpenSpec.ofChange fnExactConstLinSpec)

/-- ITS FALSE NEIGHBOUR: 'it returns false'. Refute it at one input. -/
def fnExactConstLinWrong : ChangeSpec := { name := "fnExactConstLin", fn := fun _ => fun
  | [d1, d2] => { results := [.lit (.bool false)], args := [d1, d2] }
  | _ => none }
def FnExactConstLinWrongFalsely : Prop := fnExactConstLinRow.holds Try.pinned (OpenSpec.ofChange fnExactConstLinWrong)

/- THE SECOND FORM. 'bulk': how many values and letters a reading holds, each counted each time it is reached (what is shared counts as often as it is met; a slice's spare places count too). A statement '..UptoSaid' is the law's where the arguments, and the package variables that the reading takes, are together of bulk at most 1048576: NARROWER than '..Said'. Prove '..Said' where nothing that the law and all that it calls make is longer than what came in: it says more and counts as full. Else prove '..UptoSaid'. A law counts once. -/
mutual
def uptoBulk {H : Type} : DataW H → Nat
  | .lit (.string bytes) => bytes.length + 1
  | .lit _ => 1
  | .nil => 1
  | .ptr d => uptoBulk d + 1
  | .slice elems spare => uptoBulkAll elems + uptoBulkAll spare + 1
  | .agg parts => uptoBulkAll parts + 1
  | .iface _ d => uptoBulk d + 1
  | .map entries => uptoBulkEntries entries + 1
  | .held _ => 1
def uptoBulkAll {H : Type} : List (DataW H) → Nat
  | [] => 0
  | d :: r => uptoBulk d + uptoBulkAll r
def uptoBulkEntries {H : Type} : List (Lit × DataW H) → Nat
  | [] => 0
  | x :: r => uptoBulkEntry x + uptoBulkEntries r
def uptoBulkEntry {H : Type} : Lit × DataW H → Nat
  | (.string bytes, d) => bytes.length + uptoBulk d + 1
  | (_, d) => uptoBulk d + 1
 end
def uptoSmall : (H : Type) → List (DataW H) → Bool := fun _ ds => decide (uptoBulkAll ds ≤ 1048576)
def OpenSpec.upto (s : _root_.Go.ChangeSpec) : _root_.Go.OpenSpec := { _root_.Go.OpenSpec.ofChange s with cond := some uptoSmall }

/-- 'laws.FnExactConstants', WHERE WHAT IT READS IS OF BULK AT MOST 1048576: true; the input reads as it did. -/
def fnExactConstantsUptoRow : OpenClaim := { program := "ytelgmnlkkhikfaa", sum := "ef5d12f6dbf0792de0ff9d6b0d0c540d5d569cd59f3dd3ce300121cabe487a21", func := "loop.example/g00515/laws.FnExactConstants", spec := "fnExactConstants", apart := false, narrowed := true }
def FnExactConstantsUptoSaid : Prop := fnExactConstantsUptoRow.holds Try.pinned (OpenSpec.upto fnExactConstantsSpec)

/-- 'laws.FnExactFits', WHERE WHAT IT READS IS OF BULK AT MOST 1048576: true; the input reads as it did. -/
def fnExactFitsUptoRow : OpenClaim := { program := "ytelgmnlkkhikfaa", sum := "ef5d12f6dbf0792de0ff9d6b0d0c540d5d569cd59f3dd3ce300121cabe487a21", func := "loop.example/g00515/laws.FnExactFits", spec := "fnExactFits", apart := false, narrowed := true }
def FnExactFitsUptoSaid : Prop := fnExactFitsUptoRow.holds Try.pinned (OpenSpec.upto fnExactFitsSpec)

/-- 'laws.FnExactAddLimited', WHERE WHAT IT READS IS OF BULK AT MOST 1048576: true; the input reads as it did. -/
def fnExactAddLimitedUptoRow : OpenClaim := { program := "ytelgmnlkkhikfaa", sum := "ef5d12f6dbf0792de0ff9d6b0d0c540d5d569cd59f3dd3ce300121cabe487a21", func := "loop.example/g00515/laws.FnExactAddLimited", spec := "fnExactAddLimited", apart := false, narrowed := true }
def FnExactAddLimitedUptoSaid : Prop := fnExactAddLimitedUptoRow.holds Try.pinned (OpenSpec.upto fnExactAddLimitedSpec)

/-- 'laws.FnExactMulLimited', WHERE WHAT IT READS IS OF BULK AT MOST 1048576: true; the input reads as it did. -/
def fnExactMulLimitedUptoRow : OpenClaim := { program := "ytelgmnlkkhikfaa", sum := "ef5d12f6dbf0792de0ff9d6b0d0c540d5d569cd59f3dd3ce300121cabe487a21", func := "loop.example/g00515/laws.FnExactMulLimited", spec := "fnExactMulLimited", apart := false, narrowed := true }
def FnExactMulLimitedUptoSaid : Prop := fnExactMulLimitedUptoRow.holds Try.pinned (OpenSpec.upto fnExactMulLimitedSpec)

/-- 'laws.FnExactIsReserved', WHERE WHAT IT READS IS OF BULK AT MOST 1048576: true; the input reads as it did. -/
def fnExactIsReservedUptoRow : OpenClaim := { program := "ytelgmnlkkhikfaa", sum := "ef5d12f6dbf0792de0ff9d6b0d0c540d5d569cd59f3dd3ce300121cabe487a21", func := "loop.example/g00515/laws.FnExactIsReserved", spec := "fnExactIsReserved", apart := false, narrowed := true }
def FnExactIsReservedUptoSaid : Prop := fnExactIsReservedUptoRow.holds Try.pinned (OpenSpec.upto fnExactIsReservedSpec)

/-- 'laws.FnExactFloorDiv', WHERE WHAT IT READS IS OF BULK AT MOST 1048576: true; the input reads as it did. -/
def fnExactFloorDivUptoRow : OpenClaim := { program := "ytelgmnlkkhikfaa", sum := "ef5d12f6dbf0792de0ff9d6b0d0c540d5d569cd59f3dd3ce300121cabe487a21", func := "loop.example/g00515/laws.FnExactFloorDiv", spec := "fnExactFloorDiv", apart := false, narrowed := true }
def FnExactFloorDivUptoSaid : Prop := fnExactFloorDivUptoRow.holds Try.pinned (OpenSpec.upto fnExactFloorDivSpec)

/-- 'laws.FnFarkas', WHERE WHAT IT READS IS OF BULK AT MOST 1048576: true; the input reads as it did. -/
def fnFarkasUptoRow : OpenClaim := { program := "ytelgmnlkkhikfaa", sum := "ef5d12f6dbf0792de0ff9d6b0d0c540d5d569cd59f3dd3ce300121cabe487a21", func := "loop.example/g00515/laws.FnFarkas", spec := "fnFarkas", unfollowed := true, recurses := true, apart := false, narrowed := true }
def FnFarkasUptoSaid : Prop := fnFarkasUptoRow.holds Try.pinned (OpenSpec.upto fnFarkasSpec)

/-- 'laws.FnExactGcd', WHERE WHAT IT READS IS OF BULK AT MOST 1048576: true; the input reads as it did. -/
def fnExactGcdUptoRow : OpenClaim := { program := "ytelgmnlkkhikfaa", sum := "ef5d12f6dbf0792de0ff9d6b0d0c540d5d569cd59f3dd3ce300121cabe487a21", func := "loop.example/g00515/laws.FnExactGcd", spec := "fnExactGcd", apart := false, narrowed := true }
def FnExactGcdUptoSaid : Prop := fnExactGcdUptoRow.holds Try.pinned (OpenSpec.upto fnExactGcdSpec)

/-- 'laws.FnExactIsValidName', WHERE WHAT IT READS IS OF BULK AT MOST 1048576: true; the input reads as it did. -/
def fnExactIsValidNameUptoRow : OpenClaim := { program := "ytelgmnlkkhikfaa", sum := "ef5d12f6dbf0792de0ff9d6b0d0c540d5d569cd59f3dd3ce300121cabe487a21", func := "loop.example/g00515/laws.FnExactIsValidName", spec := "fnExactIsValidName", apart := false, narrowed := true }
def FnExactIsValidNameUptoSaid : Prop := fnExactIsValidNameUptoRow.holds Try.pinned (OpenSpec.upto fnExactIsValidNameSpec)

/-- 'laws.FnExactIsListName', WHERE WHAT IT READS IS OF BULK AT MOST 1048576: true; the input reads as it did. -/
def fnExactIsListNameUptoRow : OpenClaim := { program := "ytelgmnlkkhikfaa", sum := "ef5d12f6dbf0792de0ff9d6b0d0c540d5d569cd59f3dd3ce300121cabe487a21", func := "loop.example/g00515/laws.FnExactIsListName", spec := "fnExactIsListName", apart := false, narrowed := true }
def FnExactIsListNameUptoSaid : Prop := fnExactIsListNameUptoRow.holds Try.pinned (OpenSpec.upto fnExactIsListNameSpec)

/-- 'laws.FnExactIndexOf', WHERE WHAT IT READS IS OF BULK AT MOST 1048576: true; the input reads as it did. -/
def fnExactIndexOfUptoRow : OpenClaim := { program := "ytelgmnlkkhikfaa", sum := "ef5d12f6dbf0792de0ff9d6b0d0c540d5d569cd59f3dd3ce300121cabe487a21", func := "loop.example/g00515/laws.FnExactIndexOf", spec := "fnExactIndexOf", apart := false, narrowed := true }
def FnExactIndexOfUptoSaid : Prop := fnExactIndexOfUptoRow.holds Try.pinned (OpenSpec.upto fnExactIndexOfSpec)

/-- 'laws.FnExactConstLin', WHERE WHAT IT READS IS OF BULK AT MOST 1048576: true; the input reads as it did. -/
def fnExactConstLinUptoRow : OpenClaim := { program := "ytelgmnlkkhikfaa", sum := "ef5d12f6dbf0792de0ff9d6b0d0c540d5d569cd59f3dd3ce300121cabe487a21", func := "loop.example/g00515/laws.FnExactConstLin", spec := "fnExactConstLin", apart := false, narrowed := true }
def FnExactConstLinUptoSaid : Prop := fnExactConstLinUptoRow.holds Try.pinned (OpenSpec.upto fnExactConstLinSpec)

end Rows
end Go.Proofs.Ytelgmnlkkhikfaa
