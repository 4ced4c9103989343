-- Made by a program of this claim's own (wip/print): not the kit's print as it stands.
import Derived.Test.YtelgmnlkkhikfaaUFnFarkasMore
namespace Go.Proofs.YtelgmnlkkhikfaaV.PrintWords
open Go.RowKit
end Go.Proofs.YtelgmnlkkhikfaaV.PrintWords

