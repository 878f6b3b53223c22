/-
  No cell of these rows narrows 'for every input' (looked for: loops, veiled, ifaces, maps, wideKeys, modest, calm, conditions, laid).
  DERIVED. THE GIVEN ROWS OF THIS SEAT. 6 by the template 'for every input the law returns true; each argument reads behind the call as it read before'; 0 by the template 'total and deterministic' (their statements: YtngmdidegmbpfaaTotals.lean).
  GIVEN WITH THE SEED: the statements are not yours to turn. If you find one false, say at which input.
  Laid BY PROGRAM, IN A SANDBOX (cutbox-rows.mjs): the forced cells as the released guide's own fill.sh prints them over the translation bf752994407c0645… (all of the seat's roots in one cut). By AI agents, Wed Nov 11 2026. No macro, syntax, notation, axiom, sorry.
-/
import Derived.Test.YtngmdidegmbpfaaChecked
import GoSem.Claim
import GoSem.ClaimJoined
import GoSem.ClaimMapViews
import Derived.JoinedTies
import Derived.KernelRfl
namespace Go.Proofs.Ytngmdidegmbpfaa
/- THE CELL 'sum', in the pinned program and in every row, IS THE sha256 OF THE DUMP (.gsa) THAT YtngmdidegmbpfaaProg.lean LOADS. Nothing in Lean hashes anything: it is a label: what it is worth is what the hold of that sum in a sandbox is worth. -/
noncomputable def Try.pinned : Pinned := { name := "ytngmdidegmbpfaa", sum := "bf752994407c064541005a7cfbad05187720698b1ca40b323183fdd141628631", checked := Try.checked }
namespace Rows
def none {H : Type} : Left H := { results := [], args := [] }

/-- 'standstilllaw10.LoopChecks': WHATEVER THE INPUT: true; the input reads as it did. -/
def loopChecksSpec : ChangeSpec := { name := "loopChecks", fn := fun _ => fun
  | [d1, d2, d3, d4] => { results := [.lit (.bool true)], args := [d1, d2, d3, d4] }
  | _ => none }
def loopChecksRow : OpenClaim := { program := "ytngmdidegmbpfaa", sum := "bf752994407c064541005a7cfbad05187720698b1ca40b323183fdd141628631", func := "standstill/standstilllaw10.LoopChecks", spec := "loopChecks", apart := false }
def LoopChecksSaid : Prop := loopChecksRow.holds Try.pinned (OpenSpec.ofChange loopChecksSpec)

/-- ITS FALSE NEIGHBOUR: 'it returns false'. Refute it at one input. -/
def loopChecksWrong : ChangeSpec := { name := "loopChecks", fn := fun _ => fun
  | [d1, d2, d3, d4] => { results := [.lit (.bool false)], args := [d1, d2, d3, d4] }
  | _ => none }
def LoopChecksWrongFalsely : Prop := loopChecksRow.holds Try.pinned (OpenSpec.ofChange loopChecksWrong)

/-- 'standstilllaw10.LoopAfter': WHATEVER THE INPUT: true; the input reads as it did. -/
def loopAfterSpec : ChangeSpec := { name := "loopAfter", fn := fun _ => fun
  | [d1, d2, d3, d4, d5] => { results := [.lit (.bool true)], args := [d1, d2, d3, d4, d5] }
  | _ => none }
def loopAfterRow : OpenClaim := { program := "ytngmdidegmbpfaa", sum := "bf752994407c064541005a7cfbad05187720698b1ca40b323183fdd141628631", func := "standstill/standstilllaw10.LoopAfter", spec := "loopAfter", apart := false }
def LoopAfterSaid : Prop := loopAfterRow.holds Try.pinned (OpenSpec.ofChange loopAfterSpec)

/-- ITS FALSE NEIGHBOUR: 'it returns false'. Refute it at one input. -/
def loopAfterWrong : ChangeSpec := { name := "loopAfter", fn := fun _ => fun
  | [d1, d2, d3, d4, d5] => { results := [.lit (.bool false)], args := [d1, d2, d3, d4, d5] }
  | _ => none }
def LoopAfterWrongFalsely : Prop := loopAfterRow.holds Try.pinned (OpenSpec.ofChange loopAfterWrong)

/-- 'standstilllaw10.LoopEver': WHATEVER THE INPUT: true; the input reads as it did. -/
def loopEverSpec : ChangeSpec := { name := "loopEver", fn := fun _ => fun
  | [d1, d2, d3, d4, d5, d6, d7] => { results := [.lit (.bool true)], args := [d1, d2, d3, d4, d5, d6, d7] }
  | _ => none }
def loopEverRow : OpenClaim := { program := "ytngmdidegmbpfaa", sum := "bf752994407c064541005a7cfbad05187720698b1ca40b323183fdd141628631", func := "standstill/standstilllaw10.LoopEver", spec := "loopEver", apart := false }
def LoopEverSaid : Prop := loopEverRow.holds Try.pinned (OpenSpec.ofChange loopEverSpec)

/-- ITS FALSE NEIGHBOUR: 'it returns false'. Refute it at one input. -/
def loopEverWrong : ChangeSpec := { name := "loopEver", fn := fun _ => fun
  | [d1, d2, d3, d4, d5, d6, d7] => { results := [.lit (.bool false)], args := [d1, d2, d3, d4, d5, d6, d7] }
  | _ => none }
def LoopEverWrongFalsely : Prop := loopEverRow.holds Try.pinned (OpenSpec.ofChange loopEverWrong)

/-- 'standstilllaw10.LoopMirror': WHATEVER THE INPUT: true; the input reads as it did. -/
def loopMirrorSpec : ChangeSpec := { name := "loopMirror", fn := fun _ => fun
  | [d1, d2, d3, d4] => { results := [.lit (.bool true)], args := [d1, d2, d3, d4] }
  | _ => none }
def loopMirrorRow : OpenClaim := { program := "ytngmdidegmbpfaa", sum := "bf752994407c064541005a7cfbad05187720698b1ca40b323183fdd141628631", func := "standstill/standstilllaw10.LoopMirror", spec := "loopMirror", apart := false }
def LoopMirrorSaid : Prop := loopMirrorRow.holds Try.pinned (OpenSpec.ofChange loopMirrorSpec)

/-- ITS FALSE NEIGHBOUR: 'it returns false'. Refute it at one input. -/
def loopMirrorWrong : ChangeSpec := { name := "loopMirror", fn := fun _ => fun
  | [d1, d2, d3, d4] => { results := [.lit (.bool false)], args := [d1, d2, d3, d4] }
  | _ => none }
def LoopMirrorWrongFalsely : Prop := loopMirrorRow.holds Try.pinned (OpenSpec.ofChange loopMirrorWrong)

/-- 'standstilllaw10.LoopFinds': WHATEVER THE INPUT: true; the input reads as it did. -/
def loopFindsSpec : ChangeSpec := { name := "loopFinds", fn := fun _ => fun
  | [d1, d2] => { results := [.lit (.bool true)], args := [d1, d2] }
  | _ => none }
def loopFindsRow : OpenClaim := { program := "ytngmdidegmbpfaa", sum := "bf752994407c064541005a7cfbad05187720698b1ca40b323183fdd141628631", func := "standstill/standstilllaw10.LoopFinds", spec := "loopFinds", unfollowed := true, recurses := true, apart := false }
def LoopFindsSaid : Prop := loopFindsRow.holds Try.pinned (OpenSpec.ofChange loopFindsSpec)

/-- ITS FALSE NEIGHBOUR: 'it returns false'. Refute it at one input. -/
def loopFindsWrong : ChangeSpec := { name := "loopFinds", fn := fun _ => fun
  | [d1, d2] => { results := [.lit (.bool false)], args := [d1, d2] }
  | _ => none }
def LoopFindsWrongFalsely : Prop := loopFindsRow.holds Try.pinned (OpenSpec.ofChange loopFindsWrong)

/-- 'standstilllaw10.LoopFound': WHATEVER THE INPUT: true; the input reads as it did. -/
def loopFoundSpec : ChangeSpec := { name := "loopFound", fn := fun _ => fun
  | [d1, d2] => { results := [.lit (.bool true)], args := [d1, d2] }
  | _ => none }
def loopFoundRow : OpenClaim := { program := "ytngmdidegmbpfaa", sum := "bf752994407c064541005a7cfbad05187720698b1ca40b323183fdd141628631", func := "standstill/standstilllaw10.LoopFound", spec := "loopFound", unfollowed := true, recurses := true, apart := false }
def LoopFoundSaid : Prop := loopFoundRow.holds Try.pinned (OpenSpec.ofChange loopFoundSpec)

/-- ITS FALSE NEIGHBOUR: 'it returns false'. Refute it at one input. -/
def loopFoundWrong : ChangeSpec := { name := "loopFound", fn := fun _ => fun
  | [d1, d2] => { results := [.lit (.bool false)], args := [d1, d2] }
  | _ => none }
def LoopFoundWrongFalsely : Prop := loopFoundRow.holds Try.pinned (OpenSpec.ofChange loopFoundWrong)

/- THE SECOND FORM. 'bulk': how many values and letters a reading holds, each counted each time it is reached (what is shared counts as often as it is met; a slice's spare places count too). A statement '..UptoSaid' is the law's where the arguments, and the package variables that the reading takes, are together of bulk at most 1048576: NARROWER than '..Said'. Prove '..Said' where nothing that the law and all that it calls make is longer than what came in: it says more and counts as full. Else prove '..UptoSaid'. A law counts once. -/
mutual
def uptoBulk {H : Type} : DataW H → Nat
  | .lit (.string bytes) => bytes.length + 1
  | .lit _ => 1
  | .nil => 1
  | .ptr d => uptoBulk d + 1
  | .slice elems spare => uptoBulkAll elems + uptoBulkAll spare + 1
  | .agg parts => uptoBulkAll parts + 1
  | .iface _ d => uptoBulk d + 1
  | .map entries => uptoBulkEntries entries + 1
  | .held _ => 1
def uptoBulkAll {H : Type} : List (DataW H) → Nat
  | [] => 0
  | d :: r => uptoBulk d + uptoBulkAll r
def uptoBulkEntries {H : Type} : List (Lit × DataW H) → Nat
  | [] => 0
  | x :: r => uptoBulkEntry x + uptoBulkEntries r
def uptoBulkEntry {H : Type} : Lit × DataW H → Nat
  | (.string bytes, d) => bytes.length + uptoBulk d + 1
  | (_, d) => uptoBulk d + 1
 end
def uptoSmall : (H : Type) → List (DataW H) → Bool := fun _ ds => decide (uptoBulkAll ds ≤ 1048576)
def OpenSpec.upto (s : _root_.Go.ChangeSpec) : _root_.Go.OpenSpec := { _root_.Go.OpenSpec.ofChange s with cond := some uptoSmall }

/-- 'standstilllaw10.LoopChecks', WHERE WHAT IT READS IS OF BULK AT MOST 1048576: true; the input reads as it did. -/
def loopChecksUptoRow : OpenClaim := { program := "ytngmdidegmbpfaa", sum := "bf752994407c064541005a7cfbad05187720698b1ca40b323183fdd141628631", func := "standstill/standstilllaw10.LoopChecks", spec := "loopChecks", apart := false, narrowed := true }
def LoopChecksUptoSaid : Prop := loopChecksUptoRow.holds Try.pinned (OpenSpec.upto loopChecksSpec)

/-- 'standstilllaw10.LoopAfter', WHERE WHAT IT READS IS OF BULK AT MOST 1048576: true; the input reads as it did. -/
def loopAfterUptoRow : OpenClaim := { program := "ytngmdidegmbpfaa", sum := "bf752994407c064541005a7cfbad05187720698b1ca40b323183fdd141628631", func := "standstill/standstilllaw10.LoopAfter", spec := "loopAfter", apart := false, narrowed := true }
def LoopAfterUptoSaid : Prop := loopAfterUptoRow.holds Try.pinned (OpenSpec.upto loopAfterSpec)

/-- 'standstilllaw10.LoopEver', WHERE WHAT IT READS IS OF BULK AT MOST 1048576: true; the input reads as it did. -/
def loopEverUptoRow : OpenClaim := { program := "ytngmdidegmbpfaa", sum := "bf752994407c064541005a7cfbad05187720698b1ca40b323183fdd141628631", func := "standstill/standstilllaw10.LoopEver", spec := "loopEver", apart := false, narrowed := true }
def LoopEverUptoSaid : Prop := loopEverUptoRow.holds Try.pinned (OpenSpec.upto loopEverSpec)

/-- 'standstilllaw10.LoopMirror', WHERE WHAT IT READS IS OF BULK AT MOST 1048576: true; the input reads as it did. -/
def loopMirrorUptoRow : OpenClaim := { program := "ytngmdidegmbpfaa", sum := "bf752994407c064541005a7cfbad05187720698b1ca40b323183fdd141628631", func := "standstill/standstilllaw10.LoopMirror", spec := "loopMirror", apart := false, narrowed := true }
def LoopMirrorUptoSaid : Prop := loopMirrorUptoRow.holds Try.pinned (OpenSpec.upto loopMirrorSpec)

/-- 'standstilllaw10.LoopFinds', WHERE WHAT IT READS IS OF BULK AT MOST 1048576: true; the input reads as it did. -/
def loopFindsUptoRow : OpenClaim := { program := "ytngmdidegmbpfaa", sum := "bf752994407c064541005a7cfbad05187720698b1ca40b323183fdd141628631", func := "standstill/standstilllaw10.LoopFinds", spec := "loopFinds", unfollowed := true, recurses := true, apart := false, narrowed := true }
def LoopFindsUptoSaid : Prop := loopFindsUptoRow.holds Try.pinned (OpenSpec.upto loopFindsSpec)

/-- 'standstilllaw10.LoopFound', WHERE WHAT IT READS IS OF BULK AT MOST 1048576: true; the input reads as it did. -/
def loopFoundUptoRow : OpenClaim := { program := "ytngmdidegmbpfaa", sum := "bf752994407c064541005a7cfbad05187720698b1ca40b323183fdd141628631", func := "standstill/standstilllaw10.LoopFound", spec := "loopFound", unfollowed := true, recurses := true, apart := false, narrowed := true }
def LoopFoundUptoSaid : Prop := loopFoundUptoRow.holds Try.pinned (OpenSpec.upto loopFoundSpec)

end Rows
end Go.Proofs.Ytngmdidegmbpfaa
