-- the words that this claim uses, cut to what it names, by a program of this session; Lean checks it
import Derived.Test.YtkbekdjoaibhbaaTWN
namespace Go.Proofs.YtkbekdjoaibhbaaW.PrintWords
open Go.RowKit
namespace Kd
section
variable {α : Type} {d : Kd α} {W : World} {g n : Nat} {S ok : Nat → Prop} {A : Option Addr} {ad : Addr} {xs : List α}
end
end Kd
end Go.Proofs.YtkbekdjoaibhbaaW.PrintWords
