-- Made by a program of this claim's own (wip/print): not the kit's print as it stands.
import Derived.Test.YtghiljjkaiggfaaUFnCombinedInv
import Derived.Test.YtghiljjkaiggfaaUFnCombinedFootNe
namespace Go.Proofs.YtghiljjkaiggfaaV.PrintWords
open Go.RowKit
end Go.Proofs.YtghiljjkaiggfaaV.PrintWords
namespace Go.Proofs.YtghiljjkaiggfaaV.PrintLast
section
variable {ops : Array Oper} {a : Act} {o og : Oper} {g : Nat} {t : Tmp} {u : Bool}
end
end Go.Proofs.YtghiljjkaiggfaaV.PrintLast

