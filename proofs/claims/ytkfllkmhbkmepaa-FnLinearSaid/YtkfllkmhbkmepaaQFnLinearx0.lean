-- Made by a program of this claim's own (wip/print): not the kit's print as it stands.
import Derived.Test.YtkfllkmhbkmepaaProg
import Derived.Lib.SliceRun
import Derived.Below
import Derived.Deep.Draws
import Derived.Deep.AppendLies
import Derived.Maps.AppendAt
import Derived.OwnWalk
import Derived.Laws.BytesArg
import Derived.Laws.MakeOwn
import Derived.Laws.OwnMore
import Derived.Deep.OwnRows
import Derived.Tactics
import Derived.Lib.ConvBytes
import Derived.Laws.Slices
import Derived.WalkKit
import Derived.KernelRfl
import Derived.RowKit3
import Derived.Deep.LoopGhost
import Derived.Deep.QuietTactic
import Derived.BigQuiet
import Derived.WideLaws
import Derived.Deep.DeepCutAuto
import Derived.Deep.CutBlock
import Derived.Deep.RegionHeld3
import Derived.Laws.Rows
import Derived.Lib.AppendStr
import Derived.ArgAppend
import Derived.Laws.IdiomCopy
import Derived.OrdersHeld
import Derived.Laws.BitsLemmas
import Derived.RowKit
import Derived.Test.YtkfllkmhbkmepaaUFnLinearWords
import Derived.Test.YtkfllkmhbkmepaaUFnLinearLast
import Derived.Test.YtkfllkmhbkmepaaUFnLinearTab
import Derived.Test.YtkfllkmhbkmepaaUFnLinearFour
import Derived.Test.YtkfllkmhbkmepaaUFnLinearQPut
import Derived.Test.YtkfllkmhbkmepaaUFnLinearApart
import Derived.Test.YtkfllkmhbkmepaaUFnLinearArr
import Derived.Test.YtkfllkmhbkmepaaUFnLinearZeros
import Derived.Test.YtkfllkmhbkmepaaUFnLinearFoot
import Derived.Test.YtkfllkmhbkmepaaUFnLinearKept
import Derived.Test.YtkfllkmhbkmepaaUFnLinearShare
import Derived.Test.YtkfllkmhbkmepaaUFnLinearN
import Derived.Test.YtkfllkmhbkmepaaUFnLinearFootNe
import Derived.Test.YtkfllkmhbkmepaaUFnLinearAt
import Derived.Test.YtkfllkmhbkmepaaUFnLinearEqStruct
import Derived.Test.YtkfllkmhbkmepaaUFnLinearRepsOne
import Derived.Test.YtkfllkmhbkmepaaUFnLinearInv
import Derived.Test.YtkfllkmhbkmepaaUFnLinearInvWords
import Derived.Test.YtkfllkmhbkmepaaUFnLinearGuard
import Derived.Test.YtkfllkmhbkmepaaUFnLinearNEv
import Derived.Test.YtkfllkmhbkmepaaUFnLinearMore
import Derived.Test.YtkfllkmhbkmepaaUFnLinearOne
namespace Go.Proofs.Ytkfllkmhbkmepaa.QFnLinear
open Go.RowKit Go.Proofs.YtkfllkmhbkmepaaV.PrintWords Go.Proofs.YtkfllkmhbkmepaaV.PrintLast Go.Proofs.YtkfllkmhbkmepaaV.PrintMore
attribute [local go_sem] max2_int min2_int max_two min_two max_three min_three max_four min_four   -- for this text's walks alone
set_option linter.unusedVariables false
set_option linter.unusedSimpArgs false



def errW : Option Int → Value
  | none => .nilIface
  | some c => .iface 0 (.int .i64 c)
theorem errW_none : errW none = .nilIface := rfl
theorem errW_some (c : Int) : errW (some c) = .iface 0 (.int .i64 c) := rfl

theorem info3 : (Try.prog.info? 3).map (fun i => (i.zero, i.size, i.bytes)) = some (some (.int .i64 0), 1, 8) := by kernel_rfl
-- the values' own types

end Go.Proofs.Ytkfllkmhbkmepaa.QFnLinear
