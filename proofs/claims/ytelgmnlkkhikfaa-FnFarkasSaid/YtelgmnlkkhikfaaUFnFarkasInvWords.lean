-- Made by a program of this claim's own (wip/print): not the kit's print as it stands.
import Derived.Test.YtelgmnlkkhikfaaUFnFarkasInv
import Derived.Test.YtelgmnlkkhikfaaUFnFarkasFootNe
namespace Go.Proofs.YtelgmnlkkhikfaaV.PrintWords
open Go.RowKit
end Go.Proofs.YtelgmnlkkhikfaaV.PrintWords
namespace Go.Proofs.YtelgmnlkkhikfaaV.PrintLast
section
variable {ops : Array Oper} {a : Act} {o og : Oper} {g : Nat} {t : Tmp} {u : Bool}
end
end Go.Proofs.YtelgmnlkkhikfaaV.PrintLast

