-- the words that this claim uses, cut to what it names, by a program of this session; Lean checks it
import Derived.Test.YtdkcociababjdaaTWInv
import Derived.Test.YtdkcociababjdaaTWFootNe
namespace Go.Proofs.YtdkcociababjdaaW.PrintWords
open Go.RowKit
end Go.Proofs.YtdkcociababjdaaW.PrintWords
namespace Go.Proofs.YtdkcociababjdaaW.PrintLast
section
variable {ops : Array Oper} {a : Act} {o og : Oper} {g : Nat} {t : Tmp} {u : Bool}
end
end Go.Proofs.YtdkcociababjdaaW.PrintLast
