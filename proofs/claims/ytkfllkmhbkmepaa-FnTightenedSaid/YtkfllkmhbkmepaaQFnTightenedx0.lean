-- Made by a program of this claim's own (wip/print): not the kit's print as it stands.
import Derived.Test.YtkfllkmhbkmepaaProg
import Derived.Lib.SliceRun
import Derived.Below
import Derived.Deep.Draws
import Derived.Deep.AppendLies
import Derived.Maps.AppendAt
import Derived.OwnWalk
import Derived.Laws.BytesArg
import Derived.Laws.MakeOwn
import Derived.Laws.OwnMore
import Derived.Deep.OwnRows
import Derived.Tactics
import Derived.Lib.ConvBytes
import Derived.Laws.Slices
import Derived.WalkKit
import Derived.KernelRfl
import Derived.RowKit3
import Derived.Deep.LoopGhost
import Derived.Deep.QuietTactic
import Derived.BigQuiet
import Derived.WideLaws
import Derived.Deep.DeepCutAuto
import Derived.Deep.CutBlock
import Derived.Deep.RegionHeld3
import Derived.Laws.Rows
import Derived.Lib.AppendStr
import Derived.ArgAppend
import Derived.Laws.IdiomCopy
import Derived.OrdersHeld
import Derived.Laws.BitsLemmas
import Derived.RowKit
import Derived.Test.YtkfllkmhbkmepaaVWords
import Derived.Test.YtkfllkmhbkmepaaVLast
import Derived.Test.YtkfllkmhbkmepaaVTab
import Derived.Test.YtkfllkmhbkmepaaVFour
import Derived.Test.YtkfllkmhbkmepaaVQPut
import Derived.Test.YtkfllkmhbkmepaaVApart
import Derived.Test.YtkfllkmhbkmepaaVArr
import Derived.Test.YtkfllkmhbkmepaaVZeros
import Derived.Test.YtkfllkmhbkmepaaVFoot
import Derived.Test.YtkfllkmhbkmepaaVKept
import Derived.Test.YtkfllkmhbkmepaaVShare
import Derived.Test.YtkfllkmhbkmepaaVN
import Derived.Test.YtkfllkmhbkmepaaVFootNe
import Derived.Test.YtkfllkmhbkmepaaVAt
import Derived.Test.YtkfllkmhbkmepaaVEqStruct
import Derived.Test.YtkfllkmhbkmepaaVRepsOne
import Derived.Test.YtkfllkmhbkmepaaVInv
import Derived.Test.YtkfllkmhbkmepaaVInvWords
import Derived.Test.YtkfllkmhbkmepaaVGuard
import Derived.Test.YtkfllkmhbkmepaaVNEv
import Derived.Test.YtkfllkmhbkmepaaVMore
import Derived.Test.YtkfllkmhbkmepaaVOne
namespace Go.Proofs.Ytkfllkmhbkmepaa.QFnTightened
open Go.RowKit Go.Proofs.YtkfllkmhbkmepaaV.PrintWords Go.Proofs.YtkfllkmhbkmepaaV.PrintLast Go.Proofs.YtkfllkmhbkmepaaV.PrintMore
attribute [local go_sem] max2_int min2_int max_two min_two max_three min_three max_four min_four   -- for this text's walks alone
set_option linter.unusedVariables false
set_option linter.unusedSimpArgs false



def errW : Option Int → Value
  | none => .nilIface
  | some c => .iface 0 (.int .i64 c)
theorem errW_none : errW none = .nilIface := rfl
theorem errW_some (c : Int) : errW (some c) = .iface 0 (.int .i64 c) := rfl

theorem info3 : (Try.prog.info? 3).map (fun i => (i.zero, i.size, i.bytes)) = some (some (.int .i64 0), 1, 8) := by kernel_rfl
-- the values' own types

end Go.Proofs.Ytkfllkmhbkmepaa.QFnTightened
