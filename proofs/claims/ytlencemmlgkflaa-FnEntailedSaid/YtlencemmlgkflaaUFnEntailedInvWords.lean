-- Made by a program of this claim's own (wip/print): not the kit's print as it stands.
import Derived.Test.YtlencemmlgkflaaUFnEntailedInv
import Derived.Test.YtlencemmlgkflaaUFnEntailedFootNe
namespace Go.Proofs.YtlencemmlgkflaaV.PrintWords
open Go.RowKit
end Go.Proofs.YtlencemmlgkflaaV.PrintWords
namespace Go.Proofs.YtlencemmlgkflaaV.PrintLast
section
variable {ops : Array Oper} {a : Act} {o og : Oper} {g : Nat} {t : Tmp} {u : Bool}
end
end Go.Proofs.YtlencemmlgkflaaV.PrintLast

