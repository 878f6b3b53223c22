-- the words that this claim uses, cut to what it names, by a program of this session; Lean checks it
import Derived.Test.YtkbekdjoaibhbaaTWWords
import Derived.Test.YtkbekdjoaibhbaaTWLast
namespace Go.Proofs.YtkbekdjoaibhbaaW.PrintWords
open Go.RowKit
namespace Kd
section
variable {α : Type} {d : Kd α} {e base g o n cap : Nat} {ok okp : Nat → Prop} {w W : World} {v : Value} {xs : List α}
end
section
variable {α : Type} {enc : α → Value} {h1 : ∀ x, (enc x).oneCell' = true} {e base g o n cap : Nat} {ok : Nat → Prop} {W : World} {xs : List α}
end
end Kd
end Go.Proofs.YtkbekdjoaibhbaaW.PrintWords
