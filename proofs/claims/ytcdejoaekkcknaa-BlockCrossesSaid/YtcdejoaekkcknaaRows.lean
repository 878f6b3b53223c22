/-
  No cell of these rows narrows 'for every input' (looked for: loops, veiled, ifaces, maps, wideKeys, modest, calm, conditions, laid).
  DERIVED. THE GIVEN ROWS OF THIS SEAT. 4 by the template 'for every input the law returns true; each argument reads behind the call as it read before'; 0 by the template 'total and deterministic' (their statements: YtcdejoaekkcknaaTotals.lean).
  GIVEN WITH THE SEED: the statements are not yours to turn. If you find one false, say at which input.
  Laid BY PROGRAM, IN A SANDBOX (cutbox-rows.mjs): the forced cells as the released guide's own fill.sh prints them over the translation d2f9ce56e5c01ee6… (all of the seat's roots in one cut). By AI agents, Wed Nov 11 2026. No macro, syntax, notation, axiom, sorry.
-/
import Derived.Test.YtcdejoaekkcknaaChecked
import GoSem.Claim
import GoSem.ClaimJoined
import GoSem.ClaimMapViews
import Derived.JoinedTies
import Derived.KernelRfl
namespace Go.Proofs.Ytcdejoaekkcknaa
/- THE CELL 'sum', in the pinned program and in every row, IS THE sha256 OF THE DUMP (.gsa) THAT YtcdejoaekkcknaaProg.lean LOADS. Nothing in Lean hashes anything: it is a label: what it is worth is what the hold of that sum in a sandbox is worth. -/
noncomputable def Try.pinned : Pinned := { name := "ytcdejoaekkcknaa", sum := "d2f9ce56e5c01ee62fefec9256e486fb3e33ae1cc3b2457fc540f33fdd29fc89", checked := Try.checked }
namespace Rows
def none {H : Type} : Left H := { results := [], args := [] }

/-- 'standstilllaw05.BlockCrosses': WHATEVER THE INPUT: true; the input reads as it did. -/
def blockCrossesSpec : ChangeSpec := { name := "blockCrosses", fn := fun _ => fun
  | [d1, d2, d3, d4] => { results := [.lit (.bool true)], args := [d1, d2, d3, d4] }
  | _ => none }
def blockCrossesRow : OpenClaim := { program := "ytcdejoaekkcknaa", sum := "d2f9ce56e5c01ee62fefec9256e486fb3e33ae1cc3b2457fc540f33fdd29fc89", func := "standstill/standstilllaw05.BlockCrosses", spec := "blockCrosses", plainKeys := false, apart := false }
def BlockCrossesSaid : Prop := blockCrossesRow.holds Try.pinned (OpenSpec.ofChange blockCrossesSpec)

/-- ITS FALSE NEIGHBOUR: 'it returns false'. Refute it at one input. -/
def blockCrossesWrong : ChangeSpec := { name := "blockCrosses", fn := fun _ => fun
  | [d1, d2, d3, d4] => { results := [.lit (.bool false)], args := [d1, d2, d3, d4] }
  | _ => none }
def BlockCrossesWrongFalsely : Prop := blockCrossesRow.holds Try.pinned (OpenSpec.ofChange blockCrossesWrong)

/-- 'standstilllaw05.BlockParts': WHATEVER THE INPUT: true; the input reads as it did. -/
def blockPartsSpec : ChangeSpec := { name := "blockParts", fn := fun _ => fun
  | [d1, d2, d3, d4, d5] => { results := [.lit (.bool true)], args := [d1, d2, d3, d4, d5] }
  | _ => none }
def blockPartsRow : OpenClaim := { program := "ytcdejoaekkcknaa", sum := "d2f9ce56e5c01ee62fefec9256e486fb3e33ae1cc3b2457fc540f33fdd29fc89", func := "standstill/standstilllaw05.BlockParts", spec := "blockParts", plainKeys := false, apart := false }
def BlockPartsSaid : Prop := blockPartsRow.holds Try.pinned (OpenSpec.ofChange blockPartsSpec)

/-- ITS FALSE NEIGHBOUR: 'it returns false'. Refute it at one input. -/
def blockPartsWrong : ChangeSpec := { name := "blockParts", fn := fun _ => fun
  | [d1, d2, d3, d4, d5] => { results := [.lit (.bool false)], args := [d1, d2, d3, d4, d5] }
  | _ => none }
def BlockPartsWrongFalsely : Prop := blockPartsRow.holds Try.pinned (OpenSpec.ofChange blockPartsWrong)

/-- 'standstilllaw05.BlockMirror': WHATEVER THE INPUT: true; the input reads as it did. -/
def blockMirrorSpec : ChangeSpec := { name := "blockMirror", fn := fun _ => fun
  | [d1, d2, d3, d4] => { results := [.lit (.bool true)], args := [d1, d2, d3, d4] }
  | _ => none }
def blockMirrorRow : OpenClaim := { program := "ytcdejoaekkcknaa", sum := "d2f9ce56e5c01ee62fefec9256e486fb3e33ae1cc3b2457fc540f33fdd29fc89", func := "standstill/standstilllaw05.BlockMirror", spec := "blockMirror", plainKeys := false, apart := false }
def BlockMirrorSaid : Prop := blockMirrorRow.holds Try.pinned (OpenSpec.ofChange blockMirrorSpec)

/-- ITS FALSE NEIGHBOUR: 'it returns false'. Refute it at one input. -/
def blockMirrorWrong : ChangeSpec := { name := "blockMirror", fn := fun _ => fun
  | [d1, d2, d3, d4] => { results := [.lit (.bool false)], args := [d1, d2, d3, d4] }
  | _ => none }
def BlockMirrorWrongFalsely : Prop := blockMirrorRow.holds Try.pinned (OpenSpec.ofChange blockMirrorWrong)

/-- 'standstilllaw05.BlockRuns': WHATEVER THE INPUT: true; the input reads as it did. -/
def blockRunsSpec : ChangeSpec := { name := "blockRuns", fn := fun _ => fun
  | [d1, d2, d3, d4] => { results := [.lit (.bool true)], args := [d1, d2, d3, d4] }
  | _ => none }
def blockRunsRow : OpenClaim := { program := "ytcdejoaekkcknaa", sum := "d2f9ce56e5c01ee62fefec9256e486fb3e33ae1cc3b2457fc540f33fdd29fc89", func := "standstill/standstilllaw05.BlockRuns", spec := "blockRuns", plainKeys := false, apart := false }
def BlockRunsSaid : Prop := blockRunsRow.holds Try.pinned (OpenSpec.ofChange blockRunsSpec)

/-- ITS FALSE NEIGHBOUR: 'it returns false'. Refute it at one input. -/
def blockRunsWrong : ChangeSpec := { name := "blockRuns", fn := fun _ => fun
  | [d1, d2, d3, d4] => { results := [.lit (.bool false)], args := [d1, d2, d3, d4] }
  | _ => none }
def BlockRunsWrongFalsely : Prop := blockRunsRow.holds Try.pinned (OpenSpec.ofChange blockRunsWrong)

/- THE SECOND FORM. 'bulk': how many values and letters a reading holds, each counted each time it is reached (what is shared counts as often as it is met; a slice's spare places count too). A statement '..UptoSaid' is the law's where the arguments, and the package variables that the reading takes, are together of bulk at most 1048576: NARROWER than '..Said'. Prove '..Said' where nothing that the law and all that it calls make is longer than what came in: it says more and counts as full. Else prove '..UptoSaid'. A law counts once. -/
mutual
def uptoBulk {H : Type} : DataW H → Nat
  | .lit (.string bytes) => bytes.length + 1
  | .lit _ => 1
  | .nil => 1
  | .ptr d => uptoBulk d + 1
  | .slice elems spare => uptoBulkAll elems + uptoBulkAll spare + 1
  | .agg parts => uptoBulkAll parts + 1
  | .iface _ d => uptoBulk d + 1
  | .map entries => uptoBulkEntries entries + 1
  | .held _ => 1
def uptoBulkAll {H : Type} : List (DataW H) → Nat
  | [] => 0
  | d :: r => uptoBulk d + uptoBulkAll r
def uptoBulkEntries {H : Type} : List (Lit × DataW H) → Nat
  | [] => 0
  | x :: r => uptoBulkEntry x + uptoBulkEntries r
def uptoBulkEntry {H : Type} : Lit × DataW H → Nat
  | (.string bytes, d) => bytes.length + uptoBulk d + 1
  | (_, d) => uptoBulk d + 1
 end
def uptoSmall : (H : Type) → List (DataW H) → Bool := fun _ ds => decide (uptoBulkAll ds ≤ 1048576)
def OpenSpec.upto (s : _root_.Go.ChangeSpec) : _root_.Go.OpenSpec := { _root_.Go.OpenSpec.ofChange s with cond := some uptoSmall }

/-- 'standstilllaw05.BlockCrosses', WHERE WHAT IT READS IS OF BULK AT MOST 1048576: true; the input reads as it did. -/
def blockCrossesUptoRow : OpenClaim := { program := "ytcdejoaekkcknaa", sum := "d2f9ce56e5c01ee62fefec9256e486fb3e33ae1cc3b2457fc540f33fdd29fc89", func := "standstill/standstilllaw05.BlockCrosses", spec := "blockCrosses", plainKeys := false, apart := false, narrowed := true }
def BlockCrossesUptoSaid : Prop := blockCrossesUptoRow.holds Try.pinned (OpenSpec.upto blockCrossesSpec)

/-- 'standstilllaw05.BlockParts', WHERE WHAT IT READS IS OF BULK AT MOST 1048576: true; the input reads as it did. -/
def blockPartsUptoRow : OpenClaim := { program := "ytcdejoaekkcknaa", sum := "d2f9ce56e5c01ee62fefec9256e486fb3e33ae1cc3b2457fc540f33fdd29fc89", func := "standstill/standstilllaw05.BlockParts", spec := "blockParts", plainKeys := false, apart := false, narrowed := true }
def BlockPartsUptoSaid : Prop := blockPartsUptoRow.holds Try.pinned (OpenSpec.upto blockPartsSpec)

/-- 'standstilllaw05.BlockMirror', WHERE WHAT IT READS IS OF BULK AT MOST 1048576: true; the input reads as it did. -/
def blockMirrorUptoRow : OpenClaim := { program := "ytcdejoaekkcknaa", sum := "d2f9ce56e5c01ee62fefec9256e486fb3e33ae1cc3b2457fc540f33fdd29fc89", func := "standstill/standstilllaw05.BlockMirror", spec := "blockMirror", plainKeys := false, apart := false, narrowed := true }
def BlockMirrorUptoSaid : Prop := blockMirrorUptoRow.holds Try.pinned (OpenSpec.upto blockMirrorSpec)

/-- 'standstilllaw05.BlockRuns', WHERE WHAT IT READS IS OF BULK AT MOST 1048576: true; the input reads as it did. -/
def blockRunsUptoRow : OpenClaim := { program := "ytcdejoaekkcknaa", sum := "d2f9ce56e5c01ee62fefec9256e486fb3e33ae1cc3b2457fc540f33fdd29fc89", func := "standstill/standstilllaw05.BlockRuns", spec := "blockRuns", plainKeys := false, apart := false, narrowed := true }
def BlockRunsUptoSaid : Prop := blockRunsUptoRow.holds Try.pinned (OpenSpec.upto blockRunsSpec)

end Rows
end Go.Proofs.Ytcdejoaekkcknaa
