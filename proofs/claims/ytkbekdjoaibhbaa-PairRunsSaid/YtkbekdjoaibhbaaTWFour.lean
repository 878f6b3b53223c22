-- the words that this claim uses, cut to what it names, by a program of this session; Lean checks it
import Derived.Test.YtkbekdjoaibhbaaTWTab
namespace Go.Proofs.YtkbekdjoaibhbaaW.PrintLast
section
variable {P : Program} {ops : Array Oper} {Q : Exit → Act → World → Prop} {md : Region.Mode} {S : World → Prop} {ds : List Nat} {T : Bool × List (List Nat × List Nat)}
end
end Go.Proofs.YtkbekdjoaibhbaaW.PrintLast
