-- Made by a program of this claim's own (wip/print): not the kit's print as it stands.
import Derived.Test.YtmdjhmggogfbdaaDoorUFnExactFormatSumInv
import Derived.Test.YtmdjhmggogfbdaaDoorUFnExactFormatSumFootNe
namespace Go.Proofs.YtmdjhmggogfbdaaDoorV.PrintWords
open Go.RowKit
end Go.Proofs.YtmdjhmggogfbdaaDoorV.PrintWords
namespace Go.Proofs.YtmdjhmggogfbdaaDoorV.PrintLast
section
variable {ops : Array Oper} {a : Act} {o og : Oper} {g : Nat} {t : Tmp} {u : Bool}
end
end Go.Proofs.YtmdjhmggogfbdaaDoorV.PrintLast

