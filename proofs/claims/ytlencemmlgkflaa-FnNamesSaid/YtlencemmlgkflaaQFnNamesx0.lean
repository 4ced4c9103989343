-- Made by a program of this claim's own (wip/print): not the kit's print as it stands.
import Derived.Test.YtlencemmlgkflaaShelf
import Derived.Sort.OwnSorted
import Derived.Lib.OwnBridge
import Derived.Test.YtlencemmlgkflaaProg
import Derived.Lib.SliceRun
import Derived.Laws.Cover1
import Derived.Below
import Derived.Deep.Draws
import Derived.Deep.AppendLies
import Derived.Maps.AppendAt
import Derived.OwnWalk
import Derived.Laws.BytesArg
import Derived.Laws.MakeOwn
import Derived.Laws.OwnMore
import Derived.Deep.OwnRows
import Derived.Tactics
import Derived.Lib.ConvBytes
import Derived.Laws.Slices
import Derived.WalkKit
import Derived.KernelRfl
import Derived.RowKit3
import Derived.Deep.LoopGhost
import Derived.Deep.QuietTactic
import Derived.BigQuiet
import Derived.WideLaws
import Derived.Deep.DeepCutAuto
import Derived.Deep.CutBlock
import Derived.Deep.RegionHeld3
import Derived.Laws.Rows
import Derived.Lib.AppendStr
import Derived.ArgAppend
import Derived.Laws.IdiomCopy
import Derived.OrdersHeld
import Derived.Laws.BitsLemmas
import Derived.RowKit
import Derived.Test.YtlencemmlgkflaaVWords
import Derived.Test.YtlencemmlgkflaaVLast
import Derived.Test.YtlencemmlgkflaaVTab
import Derived.Test.YtlencemmlgkflaaVFour
import Derived.Test.YtlencemmlgkflaaVQPut
import Derived.Test.YtlencemmlgkflaaVApart
import Derived.Test.YtlencemmlgkflaaVArr
import Derived.Test.YtlencemmlgkflaaVZeros
import Derived.Test.YtlencemmlgkflaaVFoot
import Derived.Test.YtlencemmlgkflaaVKept
import Derived.Test.YtlencemmlgkflaaVShare
import Derived.Test.YtlencemmlgkflaaVN
import Derived.Test.YtlencemmlgkflaaVFootNe
import Derived.Test.YtlencemmlgkflaaVAt
import Derived.Test.YtlencemmlgkflaaVEqStruct
import Derived.Test.YtlencemmlgkflaaVRepsOne
import Derived.Test.YtlencemmlgkflaaVInv
import Derived.Test.YtlencemmlgkflaaVInvWords
import Derived.Test.YtlencemmlgkflaaVGuard
import Derived.Test.YtlencemmlgkflaaVNEv
import Derived.Test.YtlencemmlgkflaaVMore
import Derived.Test.YtlencemmlgkflaaVOne
namespace Go.Proofs.Ytlencemmlgkflaa.QFnNames
open Go.RowKit Go.Proofs.YtlencemmlgkflaaV.PrintWords Go.Proofs.YtlencemmlgkflaaV.PrintLast Go.Proofs.YtlencemmlgkflaaV.PrintMore
attribute [local go_sem] max2_int min2_int max_two min_two max_three min_three max_four min_four   -- for this text's walks alone
set_option linter.unusedVariables false
set_option linter.unusedSimpArgs false



def errW : Option Int → Value
  | none => .nilIface
  | some c => .iface 0 (.int .i64 c)
theorem errW_none : errW none = .nilIface := rfl
theorem errW_some (c : Int) : errW (some c) = .iface 0 (.int .i64 c) := rfl

theorem info9 : (Try.prog.info? 9).map (fun i => (i.zero, i.size, i.bytes)) = some (some (.string ⟨#[]⟩), 1, 16) := by kernel_rfl
-- the values' own types

end Go.Proofs.Ytlencemmlgkflaa.QFnNames
