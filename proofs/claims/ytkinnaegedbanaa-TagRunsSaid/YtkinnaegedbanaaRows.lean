/-
  No cell of these rows narrows 'for every input' (looked for: loops, veiled, ifaces, maps, wideKeys, modest, calm, conditions, laid).
  DERIVED. THE GIVEN ROWS OF THIS SEAT. 6 by the template 'for every input the law returns true; each argument reads behind the call as it read before'; 0 by the template 'total and deterministic' (their statements: YtkinnaegedbanaaTotals.lean).
  GIVEN WITH THE SEED: the statements are not yours to turn. If you find one false, say at which input.
  Laid BY PROGRAM, IN A SANDBOX (cutbox-rows.mjs): the forced cells as the released guide's own fill.sh prints them over the translation 1d0007823b9d65c3… (all of the seat's roots in one cut). By AI agents, Wed Nov 11 2026. No macro, syntax, notation, axiom, sorry.
-/
import Derived.Test.YtkinnaegedbanaaChecked
import GoSem.Claim
import GoSem.ClaimJoined
import GoSem.ClaimMapViews
import Derived.JoinedTies
import Derived.KernelRfl
namespace Go.Proofs.Ytkinnaegedbanaa
/- THE CELL 'sum', in the pinned program and in every row, IS THE sha256 OF THE DUMP (.gsa) THAT YtkinnaegedbanaaProg.lean LOADS. Nothing in Lean hashes anything: it is a label: what it is worth is what the hold of that sum in a sandbox is worth. -/
noncomputable def Try.pinned : Pinned := { name := "ytkinnaegedbanaa", sum := "1d0007823b9d65c3c099083296ef156720faddf36ffbcf69e13bd92d0503e8e9", checked := Try.checked }
namespace Rows
def none {H : Type} : Left H := { results := [], args := [] }

/-- 'standstilllaw07.TagNames': WHATEVER THE INPUT: true; the input reads as it did. -/
def tagNamesSpec : ChangeSpec := { name := "tagNames", fn := fun _ => fun
  | [d1, d2, d3, d4] => { results := [.lit (.bool true)], args := [d1, d2, d3, d4] }
  | _ => none }
def tagNamesRow : OpenClaim := { program := "ytkinnaegedbanaa", sum := "1d0007823b9d65c3c099083296ef156720faddf36ffbcf69e13bd92d0503e8e9", func := "standstill/standstilllaw07.TagNames", spec := "tagNames", apart := false }
def TagNamesSaid : Prop := tagNamesRow.holds Try.pinned (OpenSpec.ofChange tagNamesSpec)

/-- ITS FALSE NEIGHBOUR: 'it returns false'. Refute it at one input. -/
def tagNamesWrong : ChangeSpec := { name := "tagNames", fn := fun _ => fun
  | [d1, d2, d3, d4] => { results := [.lit (.bool false)], args := [d1, d2, d3, d4] }
  | _ => none }
def TagNamesWrongFalsely : Prop := tagNamesRow.holds Try.pinned (OpenSpec.ofChange tagNamesWrong)

/-- 'standstilllaw07.TagRuns': WHATEVER THE INPUT: true; the input reads as it did. -/
def tagRunsSpec : ChangeSpec := { name := "tagRuns", fn := fun _ => fun
  | [d1, d2, d3] => { results := [.lit (.bool true)], args := [d1, d2, d3] }
  | _ => none }
def tagRunsRow : OpenClaim := { program := "ytkinnaegedbanaa", sum := "1d0007823b9d65c3c099083296ef156720faddf36ffbcf69e13bd92d0503e8e9", func := "standstill/standstilllaw07.TagRuns", spec := "tagRuns", apart := false }
def TagRunsSaid : Prop := tagRunsRow.holds Try.pinned (OpenSpec.ofChange tagRunsSpec)

/-- ITS FALSE NEIGHBOUR: 'it returns false'. Refute it at one input. -/
def tagRunsWrong : ChangeSpec := { name := "tagRuns", fn := fun _ => fun
  | [d1, d2, d3] => { results := [.lit (.bool false)], args := [d1, d2, d3] }
  | _ => none }
def TagRunsWrongFalsely : Prop := tagRunsRow.holds Try.pinned (OpenSpec.ofChange tagRunsWrong)

/-- 'standstilllaw07.TagTurns': WHATEVER THE INPUT: true; the input reads as it did. -/
def tagTurnsSpec : ChangeSpec := { name := "tagTurns", fn := fun _ => fun
  | [d1, d2, d3] => { results := [.lit (.bool true)], args := [d1, d2, d3] }
  | _ => none }
def tagTurnsRow : OpenClaim := { program := "ytkinnaegedbanaa", sum := "1d0007823b9d65c3c099083296ef156720faddf36ffbcf69e13bd92d0503e8e9", func := "standstill/standstilllaw07.TagTurns", spec := "tagTurns", apart := false }
def TagTurnsSaid : Prop := tagTurnsRow.holds Try.pinned (OpenSpec.ofChange tagTurnsSpec)

/-- ITS FALSE NEIGHBOUR: 'it returns false'. Refute it at one input. -/
def tagTurnsWrong : ChangeSpec := { name := "tagTurns", fn := fun _ => fun
  | [d1, d2, d3] => { results := [.lit (.bool false)], args := [d1, d2, d3] }
  | _ => none }
def TagTurnsWrongFalsely : Prop := tagTurnsRow.holds Try.pinned (OpenSpec.ofChange tagTurnsWrong)

/-- 'standstilllaw07.TagParts': WHATEVER THE INPUT: true; the input reads as it did. -/
def tagPartsSpec : ChangeSpec := { name := "tagParts", fn := fun _ => fun
  | [d1, d2, d3, d4, d5, d6] => { results := [.lit (.bool true)], args := [d1, d2, d3, d4, d5, d6] }
  | _ => none }
def tagPartsRow : OpenClaim := { program := "ytkinnaegedbanaa", sum := "1d0007823b9d65c3c099083296ef156720faddf36ffbcf69e13bd92d0503e8e9", func := "standstill/standstilllaw07.TagParts", spec := "tagParts", apart := false }
def TagPartsSaid : Prop := tagPartsRow.holds Try.pinned (OpenSpec.ofChange tagPartsSpec)

/-- ITS FALSE NEIGHBOUR: 'it returns false'. Refute it at one input. -/
def tagPartsWrong : ChangeSpec := { name := "tagParts", fn := fun _ => fun
  | [d1, d2, d3, d4, d5, d6] => { results := [.lit (.bool false)], args := [d1, d2, d3, d4, d5, d6] }
  | _ => none }
def TagPartsWrongFalsely : Prop := tagPartsRow.holds Try.pinned (OpenSpec.ofChange tagPartsWrong)

/-- 'standstilllaw07.TagCodes': WHATEVER THE INPUT: true; the input reads as it did. -/
def tagCodesSpec : ChangeSpec := { name := "tagCodes", fn := fun _ => fun
  | [d1, d2, d3] => { results := [.lit (.bool true)], args := [d1, d2, d3] }
  | _ => none }
def tagCodesRow : OpenClaim := { program := "ytkinnaegedbanaa", sum := "1d0007823b9d65c3c099083296ef156720faddf36ffbcf69e13bd92d0503e8e9", func := "standstill/standstilllaw07.TagCodes", spec := "tagCodes", apart := false }
def TagCodesSaid : Prop := tagCodesRow.holds Try.pinned (OpenSpec.ofChange tagCodesSpec)

/-- ITS FALSE NEIGHBOUR: 'it returns false'. Refute it at one input. -/
def tagCodesWrong : ChangeSpec := { name := "tagCodes", fn := fun _ => fun
  | [d1, d2, d3] => { results := [.lit (.bool false)], args := [d1, d2, d3] }
  | _ => none }
def TagCodesWrongFalsely : Prop := tagCodesRow.holds Try.pinned (OpenSpec.ofChange tagCodesWrong)

/-- 'standstilllaw07.TagCyclic': WHATEVER THE INPUT: true; the input reads as it did. -/
def tagCyclicSpec : ChangeSpec := { name := "tagCyclic", fn := fun _ => fun
  | [d1, d2, d3] => { results := [.lit (.bool true)], args := [d1, d2, d3] }
  | _ => none }
def tagCyclicRow : OpenClaim := { program := "ytkinnaegedbanaa", sum := "1d0007823b9d65c3c099083296ef156720faddf36ffbcf69e13bd92d0503e8e9", func := "standstill/standstilllaw07.TagCyclic", spec := "tagCyclic", apart := false }
def TagCyclicSaid : Prop := tagCyclicRow.holds Try.pinned (OpenSpec.ofChange tagCyclicSpec)

/-- ITS FALSE NEIGHBOUR: 'it returns false'. Refute it at one input. -/
def tagCyclicWrong : ChangeSpec := { name := "tagCyclic", fn := fun _ => fun
  | [d1, d2, d3] => { results := [.lit (.bool false)], args := [d1, d2, d3] }
  | _ => none }
def TagCyclicWrongFalsely : Prop := tagCyclicRow.holds Try.pinned (OpenSpec.ofChange tagCyclicWrong)

/- THE SECOND FORM. 'bulk': how many values and letters a reading holds, each counted each time it is reached (what is shared counts as often as it is met; a slice's spare places count too). A statement '..UptoSaid' is the law's where the arguments, and the package variables that the reading takes, are together of bulk at most 1048576: NARROWER than '..Said'. Prove '..Said' where nothing that the law and all that it calls make is longer than what came in: it says more and counts as full. Else prove '..UptoSaid'. A law counts once. -/
mutual
def uptoBulk {H : Type} : DataW H → Nat
  | .lit (.string bytes) => bytes.length + 1
  | .lit _ => 1
  | .nil => 1
  | .ptr d => uptoBulk d + 1
  | .slice elems spare => uptoBulkAll elems + uptoBulkAll spare + 1
  | .agg parts => uptoBulkAll parts + 1
  | .iface _ d => uptoBulk d + 1
  | .map entries => uptoBulkEntries entries + 1
  | .held _ => 1
def uptoBulkAll {H : Type} : List (DataW H) → Nat
  | [] => 0
  | d :: r => uptoBulk d + uptoBulkAll r
def uptoBulkEntries {H : Type} : List (Lit × DataW H) → Nat
  | [] => 0
  | x :: r => uptoBulkEntry x + uptoBulkEntries r
def uptoBulkEntry {H : Type} : Lit × DataW H → Nat
  | (.string bytes, d) => bytes.length + uptoBulk d + 1
  | (_, d) => uptoBulk d + 1
 end
def uptoSmall : (H : Type) → List (DataW H) → Bool := fun _ ds => decide (uptoBulkAll ds ≤ 1048576)
def OpenSpec.upto (s : _root_.Go.ChangeSpec) : _root_.Go.OpenSpec := { _root_.Go.OpenSpec.ofChange s with cond := some uptoSmall }

/-- 'standstilllaw07.TagNames', WHERE WHAT IT READS IS OF BULK AT MOST 1048576: true; the input reads as it did. -/
def tagNamesUptoRow : OpenClaim := { program := "ytkinnaegedbanaa", sum := "1d0007823b9d65c3c099083296ef156720faddf36ffbcf69e13bd92d0503e8e9", func := "standstill/standstilllaw07.TagNames", spec := "tagNames", apart := false, narrowed := true }
def TagNamesUptoSaid : Prop := tagNamesUptoRow.holds Try.pinned (OpenSpec.upto tagNamesSpec)

/-- 'standstilllaw07.TagRuns', WHERE WHAT IT READS IS OF BULK AT MOST 1048576: true; the input reads as it did. -/
def tagRunsUptoRow : OpenClaim := { program := "ytkinnaegedbanaa", sum := "1d0007823b9d65c3c099083296ef156720faddf36ffbcf69e13bd92d0503e8e9", func := "standstill/standstilllaw07.TagRuns", spec := "tagRuns", apart := false, narrowed := true }
def TagRunsUptoSaid : Prop := tagRunsUptoRow.holds Try.pinned (OpenSpec.upto tagRunsSpec)

/-- 'standstilllaw07.TagTurns', WHERE WHAT IT READS IS OF BULK AT MOST 1048576: true; the input reads as it did. -/
def tagTurnsUptoRow : OpenClaim := { program := "ytkinnaegedbanaa", sum := "1d0007823b9d65c3c099083296ef156720faddf36ffbcf69e13bd92d0503e8e9", func := "standstill/standstilllaw07.TagTurns", spec := "tagTurns", apart := false, narrowed := true }
def TagTurnsUptoSaid : Prop := tagTurnsUptoRow.holds Try.pinned (OpenSpec.upto tagTurnsSpec)

/-- 'standstilllaw07.TagParts', WHERE WHAT IT READS IS OF BULK AT MOST 1048576: true; the input reads as it did. -/
def tagPartsUptoRow : OpenClaim := { program := "ytkinnaegedbanaa", sum := "1d0007823b9d65c3c099083296ef156720faddf36ffbcf69e13bd92d0503e8e9", func := "standstill/standstilllaw07.TagParts", spec := "tagParts", apart := false, narrowed := true }
def TagPartsUptoSaid : Prop := tagPartsUptoRow.holds Try.pinned (OpenSpec.upto tagPartsSpec)

/-- 'standstilllaw07.TagCodes', WHERE WHAT IT READS IS OF BULK AT MOST 1048576: true; the input reads as it did. -/
def tagCodesUptoRow : OpenClaim := { program := "ytkinnaegedbanaa", sum := "1d0007823b9d65c3c099083296ef156720faddf36ffbcf69e13bd92d0503e8e9", func := "standstill/standstilllaw07.TagCodes", spec := "tagCodes", apart := false, narrowed := true }
def TagCodesUptoSaid : Prop := tagCodesUptoRow.holds Try.pinned (OpenSpec.upto tagCodesSpec)

/-- 'standstilllaw07.TagCyclic', WHERE WHAT IT READS IS OF BULK AT MOST 1048576: true; the input reads as it did. -/
def tagCyclicUptoRow : OpenClaim := { program := "ytkinnaegedbanaa", sum := "1d0007823b9d65c3c099083296ef156720faddf36ffbcf69e13bd92d0503e8e9", func := "standstill/standstilllaw07.TagCyclic", spec := "tagCyclic", apart := false, narrowed := true }
def TagCyclicUptoSaid : Prop := tagCyclicUptoRow.holds Try.pinned (OpenSpec.upto tagCyclicSpec)

end Rows
end Go.Proofs.Ytkinnaegedbanaa
