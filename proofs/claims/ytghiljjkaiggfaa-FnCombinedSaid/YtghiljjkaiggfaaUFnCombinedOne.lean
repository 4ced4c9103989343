-- Made by a program of this claim's own (wip/print): not the kit's print as it stands.
import Derived.Test.YtghiljjkaiggfaaUFnCombinedMore
namespace Go.Proofs.YtghiljjkaiggfaaV.PrintWords
open Go.RowKit
end Go.Proofs.YtghiljjkaiggfaaV.PrintWords

