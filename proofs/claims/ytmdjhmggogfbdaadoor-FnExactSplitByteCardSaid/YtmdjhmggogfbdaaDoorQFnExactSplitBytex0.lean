-- Made by a program of this claim's own (wip/print): not the kit's print as it stands.
import Derived.Test.YtmdjhmggogfbdaaDoorShelf
import Derived.Sort.OwnSorted
import Derived.Lib.OwnBridge
import Derived.Test.YtmdjhmggogfbdaaDoorProg
import Derived.Lib.SliceRun
import Derived.Laws.Cover1
import Derived.Below
import Derived.Deep.Draws
import Derived.Deep.AppendLies
import Derived.Maps.AppendAt
import Derived.OwnWalk
import Derived.Laws.BytesArg
import Derived.Laws.MakeOwn
import Derived.Laws.OwnMore
import Derived.Deep.OwnRows
import Derived.Tactics
import Derived.Lib.ConvBytes
import Derived.Laws.Slices
import Derived.WalkKit
import Derived.KernelRfl
import Derived.RowKit3
import Derived.Deep.LoopGhost
import Derived.Deep.QuietTactic
import Derived.BigQuiet
import Derived.WideLaws
import Derived.Deep.DeepCutAuto
import Derived.Deep.CutBlock
import Derived.Deep.RegionHeld3
import Derived.Laws.Rows
import Derived.Lib.AppendStr
import Derived.ArgAppend
import Derived.Laws.IdiomCopy
import Derived.OrdersHeld
import Derived.Laws.BitsLemmas
import Derived.RowKit
import Derived.Test.YtmdjhmggogfbdaaDoorVWords
import Derived.Test.YtmdjhmggogfbdaaDoorVLast
import Derived.Test.YtmdjhmggogfbdaaDoorVTab
import Derived.Test.YtmdjhmggogfbdaaDoorVFour
import Derived.Test.YtmdjhmggogfbdaaDoorVQPut
import Derived.Test.YtmdjhmggogfbdaaDoorVApart
import Derived.Test.YtmdjhmggogfbdaaDoorVArr
import Derived.Test.YtmdjhmggogfbdaaDoorVZeros
import Derived.Test.YtmdjhmggogfbdaaDoorVFoot
import Derived.Test.YtmdjhmggogfbdaaDoorVKept
import Derived.Test.YtmdjhmggogfbdaaDoorVShare
import Derived.Test.YtmdjhmggogfbdaaDoorVN
import Derived.Test.YtmdjhmggogfbdaaDoorVFootNe
import Derived.Test.YtmdjhmggogfbdaaDoorVAt
import Derived.Test.YtmdjhmggogfbdaaDoorVEqStruct
import Derived.Test.YtmdjhmggogfbdaaDoorVRepsOne
import Derived.Test.YtmdjhmggogfbdaaDoorVInv
import Derived.Test.YtmdjhmggogfbdaaDoorVInvWords
import Derived.Test.YtmdjhmggogfbdaaDoorVGuard
import Derived.Test.YtmdjhmggogfbdaaDoorVNEv
import Derived.Test.YtmdjhmggogfbdaaDoorVMore
import Derived.Test.YtmdjhmggogfbdaaDoorVOne
namespace Go.Proofs.YtmdjhmggogfbdaaDoor.QFnExactSplitByte
open Go.RowKit Go.Proofs.YtmdjhmggogfbdaaDoorV.PrintWords Go.Proofs.YtmdjhmggogfbdaaDoorV.PrintLast Go.Proofs.YtmdjhmggogfbdaaDoorV.PrintMore
attribute [local go_sem] max2_int min2_int max_two min_two max_three min_three max_four min_four   -- for this text's walks alone
set_option linter.unusedVariables false
set_option linter.unusedSimpArgs false



def errW : Option Int → Value
  | none => .nilIface
  | some c => .iface 0 (.int .i64 c)
theorem errW_none : errW none = .nilIface := rfl
theorem errW_some (c : Int) : errW (some c) = .iface 0 (.int .i64 c) := rfl

theorem info5 : (Tryd.prog.info? 5).map (fun i => (i.zero, i.size, i.bytes)) = some (some (.int .u8 0), 1, 1) := by kernel_rfl
theorem info9 : (Tryd.prog.info? 9).map (fun i => (i.zero, i.size, i.bytes)) = some (some (.string ⟨#[]⟩), 1, 16) := by kernel_rfl
-- the values' own types

end Go.Proofs.YtmdjhmggogfbdaaDoor.QFnExactSplitByte
