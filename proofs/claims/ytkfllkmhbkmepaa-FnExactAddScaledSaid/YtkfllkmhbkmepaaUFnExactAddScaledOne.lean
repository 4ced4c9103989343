-- Made by a program of this claim's own (wip/print): not the kit's print as it stands.
import Derived.Test.YtkfllkmhbkmepaaUFnExactAddScaledMore
namespace Go.Proofs.YtkfllkmhbkmepaaV.PrintWords
open Go.RowKit
end Go.Proofs.YtkfllkmhbkmepaaV.PrintWords

