/-
  No cell of these rows narrows 'for every input' (looked for: loops, veiled, ifaces, maps, wideKeys, modest, calm, conditions, laid).
  DERIVED. THE GIVEN ROWS OF THIS SEAT. 5 by the template 'for every input the law returns true; each argument reads behind the call as it read before'; 0 by the template 'total and deterministic' (their statements: YtkekehpfkfadfaaTotals.lean).
  GIVEN WITH THE SEED: the statements are not yours to turn. If you find one false, say at which input.
  Laid BY PROGRAM, IN A SANDBOX (cutbox-rows.mjs): the forced cells as the released guide's own fill.sh prints them over the translation e3c04b807f0ce759… (all of the seat's roots in one cut). By AI agents, Wed Nov 11 2026. No macro, syntax, notation, axiom, sorry.
-/
import Derived.Test.YtkekehpfkfadfaaChecked
import GoSem.Claim
import GoSem.ClaimJoined
import GoSem.ClaimMapViews
import Derived.JoinedTies
import Derived.KernelRfl
namespace Go.Proofs.Ytkekehpfkfadfaa
/- THE CELL 'sum', in the pinned program and in every row, IS THE sha256 OF THE DUMP (.gsa) THAT YtkekehpfkfadfaaProg.lean LOADS. Nothing in Lean hashes anything: it is a label: what it is worth is what the hold of that sum in a sandbox is worth. -/
noncomputable def Try.pinned : Pinned := { name := "ytkekehpfkfadfaa", sum := "e3c04b807f0ce75933de8f63f71dc62d73bdcb623862e3c5fdc783e6f2e5cbe7", checked := Try.checked }
namespace Rows
def none {H : Type} : Left H := { results := [], args := [] }

/-- 'standstilllaw06.CounterNames': WHATEVER THE INPUT: true; the input reads as it did. -/
def counterNamesSpec : ChangeSpec := { name := "counterNames", fn := fun _ => fun
  | [d1, d2, d3, d4, d5] => { results := [.lit (.bool true)], args := [d1, d2, d3, d4, d5] }
  | _ => none }
def counterNamesRow : OpenClaim := { program := "ytkekehpfkfadfaa", sum := "e3c04b807f0ce75933de8f63f71dc62d73bdcb623862e3c5fdc783e6f2e5cbe7", func := "standstill/standstilllaw06.CounterNames", spec := "counterNames", unfollowed := true, recurses := true, apart := false }
def CounterNamesSaid : Prop := counterNamesRow.holds Try.pinned (OpenSpec.ofChange counterNamesSpec)

/-- ITS FALSE NEIGHBOUR: 'it returns false'. Refute it at one input. -/
def counterNamesWrong : ChangeSpec := { name := "counterNames", fn := fun _ => fun
  | [d1, d2, d3, d4, d5] => { results := [.lit (.bool false)], args := [d1, d2, d3, d4, d5] }
  | _ => none }
def CounterNamesWrongFalsely : Prop := counterNamesRow.holds Try.pinned (OpenSpec.ofChange counterNamesWrong)

/-- 'standstilllaw06.CounterJoins': WHATEVER THE INPUT: true; the input reads as it did. -/
def counterJoinsSpec : ChangeSpec := { name := "counterJoins", fn := fun _ => fun
  | [d1, d2] => { results := [.lit (.bool true)], args := [d1, d2] }
  | _ => none }
def counterJoinsRow : OpenClaim := { program := "ytkekehpfkfadfaa", sum := "e3c04b807f0ce75933de8f63f71dc62d73bdcb623862e3c5fdc783e6f2e5cbe7", func := "standstill/standstilllaw06.CounterJoins", spec := "counterJoins", unfollowed := true, recurses := true, apart := false }
def CounterJoinsSaid : Prop := counterJoinsRow.holds Try.pinned (OpenSpec.ofChange counterJoinsSpec)

/-- ITS FALSE NEIGHBOUR: 'it returns false'. Refute it at one input. -/
def counterJoinsWrong : ChangeSpec := { name := "counterJoins", fn := fun _ => fun
  | [d1, d2] => { results := [.lit (.bool false)], args := [d1, d2] }
  | _ => none }
def CounterJoinsWrongFalsely : Prop := counterJoinsRow.holds Try.pinned (OpenSpec.ofChange counterJoinsWrong)

/-- 'standstilllaw06.CounterJoined': WHATEVER THE INPUT: true; the input reads as it did. -/
def counterJoinedSpec : ChangeSpec := { name := "counterJoined", fn := fun _ => fun
  | [d1, d2, d3] => { results := [.lit (.bool true)], args := [d1, d2, d3] }
  | _ => none }
def counterJoinedRow : OpenClaim := { program := "ytkekehpfkfadfaa", sum := "e3c04b807f0ce75933de8f63f71dc62d73bdcb623862e3c5fdc783e6f2e5cbe7", func := "standstill/standstilllaw06.CounterJoined", spec := "counterJoined", unfollowed := true, recurses := true, apart := false }
def CounterJoinedSaid : Prop := counterJoinedRow.holds Try.pinned (OpenSpec.ofChange counterJoinedSpec)

/-- ITS FALSE NEIGHBOUR: 'it returns false'. Refute it at one input. -/
def counterJoinedWrong : ChangeSpec := { name := "counterJoined", fn := fun _ => fun
  | [d1, d2, d3] => { results := [.lit (.bool false)], args := [d1, d2, d3] }
  | _ => none }
def CounterJoinedWrongFalsely : Prop := counterJoinedRow.holds Try.pinned (OpenSpec.ofChange counterJoinedWrong)

/-- 'standstilllaw06.CounterRuns': WHATEVER THE INPUT: true; the input reads as it did. -/
def counterRunsSpec : ChangeSpec := { name := "counterRuns", fn := fun _ => fun
  | [d1, d2, d3, d4] => { results := [.lit (.bool true)], args := [d1, d2, d3, d4] }
  | _ => none }
def counterRunsRow : OpenClaim := { program := "ytkekehpfkfadfaa", sum := "e3c04b807f0ce75933de8f63f71dc62d73bdcb623862e3c5fdc783e6f2e5cbe7", func := "standstill/standstilllaw06.CounterRuns", spec := "counterRuns", unfollowed := true, recurses := true, apart := false }
def CounterRunsSaid : Prop := counterRunsRow.holds Try.pinned (OpenSpec.ofChange counterRunsSpec)

/-- ITS FALSE NEIGHBOUR: 'it returns false'. Refute it at one input. -/
def counterRunsWrong : ChangeSpec := { name := "counterRuns", fn := fun _ => fun
  | [d1, d2, d3, d4] => { results := [.lit (.bool false)], args := [d1, d2, d3, d4] }
  | _ => none }
def CounterRunsWrongFalsely : Prop := counterRunsRow.holds Try.pinned (OpenSpec.ofChange counterRunsWrong)

/-- 'standstilllaw06.CounterParts': WHATEVER THE INPUT: true; the input reads as it did. -/
def counterPartsSpec : ChangeSpec := { name := "counterParts", fn := fun _ => fun
  | [d1, d2, d3, d4, d5] => { results := [.lit (.bool true)], args := [d1, d2, d3, d4, d5] }
  | _ => none }
def counterPartsRow : OpenClaim := { program := "ytkekehpfkfadfaa", sum := "e3c04b807f0ce75933de8f63f71dc62d73bdcb623862e3c5fdc783e6f2e5cbe7", func := "standstill/standstilllaw06.CounterParts", spec := "counterParts", unfollowed := true, recurses := true, apart := false }
def CounterPartsSaid : Prop := counterPartsRow.holds Try.pinned (OpenSpec.ofChange counterPartsSpec)

/-- ITS FALSE NEIGHBOUR: 'it returns false'. Refute it at one input. -/
def counterPartsWrong : ChangeSpec := { name := "counterParts", fn := fun _ => fun
  | [d1, d2, d3, d4, d5] => { results := [.lit (.bool false)], args := [d1, d2, d3, d4, d5] }
  | _ => none }
def CounterPartsWrongFalsely : Prop := counterPartsRow.holds Try.pinned (OpenSpec.ofChange counterPartsWrong)

/- THE SECOND FORM. 'bulk': how many values and letters a reading holds, each counted each time it is reached (what is shared counts as often as it is met; a slice's spare places count too). A statement '..UptoSaid' is the law's where the arguments, and the package variables that the reading takes, are together of bulk at most 1048576: NARROWER than '..Said'. Prove '..Said' where nothing that the law and all that it calls make is longer than what came in: it says more and counts as full. Else prove '..UptoSaid'. A law counts once. -/
mutual
def uptoBulk {H : Type} : DataW H → Nat
  | .lit (.string bytes) => bytes.length + 1
  | .lit _ => 1
  | .nil => 1
  | .ptr d => uptoBulk d + 1
  | .slice elems spare => uptoBulkAll elems + uptoBulkAll spare + 1
  | .agg parts => uptoBulkAll parts + 1
  | .iface _ d => uptoBulk d + 1
  | .map entries => uptoBulkEntries entries + 1
  | .held _ => 1
def uptoBulkAll {H : Type} : List (DataW H) → Nat
  | [] => 0
  | d :: r => uptoBulk d + uptoBulkAll r
def uptoBulkEntries {H : Type} : List (Lit × DataW H) → Nat
  | [] => 0
  | x :: r => uptoBulkEntry x + uptoBulkEntries r
def uptoBulkEntry {H : Type} : Lit × DataW H → Nat
  | (.string bytes, d) => bytes.length + uptoBulk d + 1
  | (_, d) => uptoBulk d + 1
 end
def uptoSmall : (H : Type) → List (DataW H) → Bool := fun _ ds => decide (uptoBulkAll ds ≤ 1048576)
def OpenSpec.upto (s : _root_.Go.ChangeSpec) : _root_.Go.OpenSpec := { _root_.Go.OpenSpec.ofChange s with cond := some uptoSmall }

/-- 'standstilllaw06.CounterNames', WHERE WHAT IT READS IS OF BULK AT MOST 1048576: true; the input reads as it did. -/
def counterNamesUptoRow : OpenClaim := { program := "ytkekehpfkfadfaa", sum := "e3c04b807f0ce75933de8f63f71dc62d73bdcb623862e3c5fdc783e6f2e5cbe7", func := "standstill/standstilllaw06.CounterNames", spec := "counterNames", unfollowed := true, recurses := true, apart := false, narrowed := true }
def CounterNamesUptoSaid : Prop := counterNamesUptoRow.holds Try.pinned (OpenSpec.upto counterNamesSpec)

/-- 'standstilllaw06.CounterJoins', WHERE WHAT IT READS IS OF BULK AT MOST 1048576: true; the input reads as it did. -/
def counterJoinsUptoRow : OpenClaim := { program := "ytkekehpfkfadfaa", sum := "e3c04b807f0ce75933de8f63f71dc62d73bdcb623862e3c5fdc783e6f2e5cbe7", func := "standstill/standstilllaw06.CounterJoins", spec := "counterJoins", unfollowed := true, recurses := true, apart := false, narrowed := true }
def CounterJoinsUptoSaid : Prop := counterJoinsUptoRow.holds Try.pinned (OpenSpec.upto counterJoinsSpec)

/-- 'standstilllaw06.CounterJoined', WHERE WHAT IT READS IS OF BULK AT MOST 1048576: true; the input reads as it did. -/
def counterJoinedUptoRow : OpenClaim := { program := "ytkekehpfkfadfaa", sum := "e3c04b807f0ce75933de8f63f71dc62d73bdcb623862e3c5fdc783e6f2e5cbe7", func := "standstill/standstilllaw06.CounterJoined", spec := "counterJoined", unfollowed := true, recurses := true, apart := false, narrowed := true }
def CounterJoinedUptoSaid : Prop := counterJoinedUptoRow.holds Try.pinned (OpenSpec.upto counterJoinedSpec)

/-- 'standstilllaw06.CounterRuns', WHERE WHAT IT READS IS OF BULK AT MOST 1048576: true; the input reads as it did. -/
def counterRunsUptoRow : OpenClaim := { program := "ytkekehpfkfadfaa", sum := "e3c04b807f0ce75933de8f63f71dc62d73bdcb623862e3c5fdc783e6f2e5cbe7", func := "standstill/standstilllaw06.CounterRuns", spec := "counterRuns", unfollowed := true, recurses := true, apart := false, narrowed := true }
def CounterRunsUptoSaid : Prop := counterRunsUptoRow.holds Try.pinned (OpenSpec.upto counterRunsSpec)

/-- 'standstilllaw06.CounterParts', WHERE WHAT IT READS IS OF BULK AT MOST 1048576: true; the input reads as it did. -/
def counterPartsUptoRow : OpenClaim := { program := "ytkekehpfkfadfaa", sum := "e3c04b807f0ce75933de8f63f71dc62d73bdcb623862e3c5fdc783e6f2e5cbe7", func := "standstill/standstilllaw06.CounterParts", spec := "counterParts", unfollowed := true, recurses := true, apart := false, narrowed := true }
def CounterPartsUptoSaid : Prop := counterPartsUptoRow.holds Try.pinned (OpenSpec.upto counterPartsSpec)

end Rows
end Go.Proofs.Ytkekehpfkfadfaa
