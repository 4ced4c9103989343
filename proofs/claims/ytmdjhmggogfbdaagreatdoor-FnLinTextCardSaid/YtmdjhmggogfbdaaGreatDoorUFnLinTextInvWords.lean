-- Made by a program of this claim's own (wip/print): not the kit's print as it stands.
import Derived.Test.YtmdjhmggogfbdaaGreatDoorUFnLinTextInv
import Derived.Test.YtmdjhmggogfbdaaGreatDoorUFnLinTextFootNe
namespace Go.Proofs.YtmdjhmggogfbdaaGreatDoorV.PrintWords
open Go.RowKit
end Go.Proofs.YtmdjhmggogfbdaaGreatDoorV.PrintWords
namespace Go.Proofs.YtmdjhmggogfbdaaGreatDoorV.PrintLast
section
variable {ops : Array Oper} {a : Act} {o og : Oper} {g : Nat} {t : Tmp} {u : Bool}
end
end Go.Proofs.YtmdjhmggogfbdaaGreatDoorV.PrintLast

