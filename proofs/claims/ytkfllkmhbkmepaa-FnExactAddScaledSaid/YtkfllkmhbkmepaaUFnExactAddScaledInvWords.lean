-- Made by a program of this claim's own (wip/print): not the kit's print as it stands.
import Derived.Test.YtkfllkmhbkmepaaUFnExactAddScaledInv
import Derived.Test.YtkfllkmhbkmepaaUFnExactAddScaledFootNe
namespace Go.Proofs.YtkfllkmhbkmepaaV.PrintWords
open Go.RowKit
end Go.Proofs.YtkfllkmhbkmepaaV.PrintWords
namespace Go.Proofs.YtkfllkmhbkmepaaV.PrintLast
section
variable {ops : Array Oper} {a : Act} {o og : Oper} {g : Nat} {t : Tmp} {u : Bool}
end
end Go.Proofs.YtkfllkmhbkmepaaV.PrintLast

