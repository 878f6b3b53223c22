-- the words that this claim uses, cut to what it names, by a program of this session; Lean checks it
import Derived.Test.YtkbekdjoaibhbaaTWInv
import Derived.Test.YtkbekdjoaibhbaaTWFootNe
namespace Go.Proofs.YtkbekdjoaibhbaaW.PrintWords
open Go.RowKit
end Go.Proofs.YtkbekdjoaibhbaaW.PrintWords
namespace Go.Proofs.YtkbekdjoaibhbaaW.PrintLast
section
variable {ops : Array Oper} {a : Act} {o og : Oper} {g : Nat} {t : Tmp} {u : Bool}
end
end Go.Proofs.YtkbekdjoaibhbaaW.PrintLast
