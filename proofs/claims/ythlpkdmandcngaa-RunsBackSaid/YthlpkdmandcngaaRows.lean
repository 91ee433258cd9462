/-
  No cell of these rows narrows 'for every input' (looked for: loops, veiled, ifaces, maps, wideKeys, modest, calm, conditions, laid).
  DERIVED. THE GIVEN ROWS OF THIS SEAT. 7 by the template 'for every input the law returns true; each argument reads behind the call as it read before'; 0 by the template 'total and deterministic' (their statements: YthlpkdmandcngaaTotals.lean).
  GIVEN WITH THE SEED: the statements are not yours to turn. If you find one false, say at which input.
  Laid BY PROGRAM, IN A SANDBOX (cutbox-rows.mjs): the forced cells as the released guide's own fill.sh prints them over the translation 8aac2a10519a4f55… (all of the seat's roots in one cut). By AI agents, Wed Nov 11 2026. No macro, syntax, notation, axiom, sorry.
-/
import Derived.Test.YthlpkdmandcngaaChecked
import GoSem.Claim
import GoSem.ClaimJoined
import GoSem.ClaimMapViews
import Derived.JoinedTies
import Derived.KernelRfl
namespace Go.Proofs.Ythlpkdmandcngaa
/- THE CELL 'sum', in the pinned program and in every row, IS THE sha256 OF THE DUMP (.gsa) THAT YthlpkdmandcngaaProg.lean LOADS. Nothing in Lean hashes anything: it is a label: what it is worth is what the hold of that sum in a sandbox is worth. -/
noncomputable def Try.pinned : Pinned := { name := "ythlpkdmandcngaa", sum := "8aac2a10519a4f55a036fb54aa6e5d6cea565c2813739fac01d37768dee54ce5", checked := Try.checked }
namespace Rows
def none {H : Type} : Left H := { results := [], args := [] }

/-- 'colonnadelaw10.RunsNames': WHATEVER THE INPUT: true; the input reads as it did. -/
def runsNamesSpec : ChangeSpec := { name := "runsNames", fn := fun _ => fun
  | [] => { results := [.lit (.bool true)], args := [] }
  | _ => none }
def runsNamesRow : OpenClaim := { program := "ythlpkdmandcngaa", sum := "8aac2a10519a4f55a036fb54aa6e5d6cea565c2813739fac01d37768dee54ce5", func := "colonnade/colonnadelaw10.RunsNames", spec := "runsNames", apart := false }
def RunsNamesSaid : Prop := runsNamesRow.holds Try.pinned (OpenSpec.ofChange runsNamesSpec)

/-- ITS FALSE NEIGHBOUR: 'it returns false'. Refute it at one input. -/
def runsNamesWrong : ChangeSpec := { name := "runsNames", fn := fun _ => fun
  | [] => { results := [.lit (.bool false)], args := [] }
  | _ => none }
def RunsNamesWrongFalsely : Prop := runsNamesRow.holds Try.pinned (OpenSpec.ofChange runsNamesWrong)

/-- 'colonnadelaw10.RunsFolds': WHATEVER THE INPUT: true; the input reads as it did. -/
def runsFoldsSpec : ChangeSpec := { name := "runsFolds", fn := fun _ => fun
  | [d1, d2] => { results := [.lit (.bool true)], args := [d1, d2] }
  | _ => none }
def runsFoldsRow : OpenClaim := { program := "ythlpkdmandcngaa", sum := "8aac2a10519a4f55a036fb54aa6e5d6cea565c2813739fac01d37768dee54ce5", func := "colonnade/colonnadelaw10.RunsFolds", spec := "runsFolds", unfollowed := true, recurses := true, apart := false }
def RunsFoldsSaid : Prop := runsFoldsRow.holds Try.pinned (OpenSpec.ofChange runsFoldsSpec)

/-- ITS FALSE NEIGHBOUR: 'it returns false'. Refute it at one input. -/
def runsFoldsWrong : ChangeSpec := { name := "runsFolds", fn := fun _ => fun
  | [d1, d2] => { results := [.lit (.bool false)], args := [d1, d2] }
  | _ => none }
def RunsFoldsWrongFalsely : Prop := runsFoldsRow.holds Try.pinned (OpenSpec.ofChange runsFoldsWrong)

/-- 'colonnadelaw10.RunsReads': WHATEVER THE INPUT: true; the input reads as it did. -/
def runsReadsSpec : ChangeSpec := { name := "runsReads", fn := fun _ => fun
  | [d1, d2] => { results := [.lit (.bool true)], args := [d1, d2] }
  | _ => none }
def runsReadsRow : OpenClaim := { program := "ythlpkdmandcngaa", sum := "8aac2a10519a4f55a036fb54aa6e5d6cea565c2813739fac01d37768dee54ce5", func := "colonnade/colonnadelaw10.RunsReads", spec := "runsReads", unfollowed := true, recurses := true, apart := false }
def RunsReadsSaid : Prop := runsReadsRow.holds Try.pinned (OpenSpec.ofChange runsReadsSpec)

/-- ITS FALSE NEIGHBOUR: 'it returns false'. Refute it at one input. -/
def runsReadsWrong : ChangeSpec := { name := "runsReads", fn := fun _ => fun
  | [d1, d2] => { results := [.lit (.bool false)], args := [d1, d2] }
  | _ => none }
def RunsReadsWrongFalsely : Prop := runsReadsRow.holds Try.pinned (OpenSpec.ofChange runsReadsWrong)

/-- 'colonnadelaw10.RunsFewest': WHATEVER THE INPUT: true; the input reads as it did. -/
def runsFewestSpec : ChangeSpec := { name := "runsFewest", fn := fun _ => fun
  | [d1, d2] => { results := [.lit (.bool true)], args := [d1, d2] }
  | _ => none }
def runsFewestRow : OpenClaim := { program := "ythlpkdmandcngaa", sum := "8aac2a10519a4f55a036fb54aa6e5d6cea565c2813739fac01d37768dee54ce5", func := "colonnade/colonnadelaw10.RunsFewest", spec := "runsFewest", unfollowed := true, recurses := true, apart := false }
def RunsFewestSaid : Prop := runsFewestRow.holds Try.pinned (OpenSpec.ofChange runsFewestSpec)

/-- ITS FALSE NEIGHBOUR: 'it returns false'. Refute it at one input. -/
def runsFewestWrong : ChangeSpec := { name := "runsFewest", fn := fun _ => fun
  | [d1, d2] => { results := [.lit (.bool false)], args := [d1, d2] }
  | _ => none }
def RunsFewestWrongFalsely : Prop := runsFewestRow.holds Try.pinned (OpenSpec.ofChange runsFewestWrong)

/-- 'colonnadelaw10.RunsBack': WHATEVER THE INPUT: true; the input reads as it did. -/
def runsBackSpec : ChangeSpec := { name := "runsBack", fn := fun _ => fun
  | [d1, d2, d3, d4] => { results := [.lit (.bool true)], args := [d1, d2, d3, d4] }
  | _ => none }
def runsBackRow : OpenClaim := { program := "ythlpkdmandcngaa", sum := "8aac2a10519a4f55a036fb54aa6e5d6cea565c2813739fac01d37768dee54ce5", func := "colonnade/colonnadelaw10.RunsBack", spec := "runsBack", unfollowed := true, recurses := true, apart := false }
def RunsBackSaid : Prop := runsBackRow.holds Try.pinned (OpenSpec.ofChange runsBackSpec)

/-- ITS FALSE NEIGHBOUR: 'it returns false'. Refute it at one input. -/
def runsBackWrong : ChangeSpec := { name := "runsBack", fn := fun _ => fun
  | [d1, d2, d3, d4] => { results := [.lit (.bool false)], args := [d1, d2, d3, d4] }
  | _ => none }
def RunsBackWrongFalsely : Prop := runsBackRow.holds Try.pinned (OpenSpec.ofChange runsBackWrong)

/-- 'colonnadelaw10.RunsForm': WHATEVER THE INPUT: true; the input reads as it did. -/
def runsFormSpec : ChangeSpec := { name := "runsForm", fn := fun _ => fun
  | [d1, d2] => { results := [.lit (.bool true)], args := [d1, d2] }
  | _ => none }
def runsFormRow : OpenClaim := { program := "ythlpkdmandcngaa", sum := "8aac2a10519a4f55a036fb54aa6e5d6cea565c2813739fac01d37768dee54ce5", func := "colonnade/colonnadelaw10.RunsForm", spec := "runsForm", unfollowed := true, recurses := true, apart := false }
def RunsFormSaid : Prop := runsFormRow.holds Try.pinned (OpenSpec.ofChange runsFormSpec)

/-- ITS FALSE NEIGHBOUR: 'it returns false'. Refute it at one input. -/
def runsFormWrong : ChangeSpec := { name := "runsForm", fn := fun _ => fun
  | [d1, d2] => { results := [.lit (.bool false)], args := [d1, d2] }
  | _ => none }
def RunsFormWrongFalsely : Prop := runsFormRow.holds Try.pinned (OpenSpec.ofChange runsFormWrong)

/-- 'colonnadelaw10.RunsMemory': WHATEVER THE INPUT: true; the input reads as it did. -/
def runsMemorySpec : ChangeSpec := { name := "runsMemory", fn := fun _ => fun
  | [d1, d2] => { results := [.lit (.bool true)], args := [d1, d2] }
  | _ => none }
def runsMemoryRow : OpenClaim := { program := "ythlpkdmandcngaa", sum := "8aac2a10519a4f55a036fb54aa6e5d6cea565c2813739fac01d37768dee54ce5", func := "colonnade/colonnadelaw10.RunsMemory", spec := "runsMemory", unfollowed := true, recurses := true, apart := false }
def RunsMemorySaid : Prop := runsMemoryRow.holds Try.pinned (OpenSpec.ofChange runsMemorySpec)

/-- ITS FALSE NEIGHBOUR: 'it returns false'. Refute it at one input. -/
def runsMemoryWrong : ChangeSpec := { name := "runsMemory", fn := fun _ => fun
  | [d1, d2] => { results := [.lit (.bool false)], args := [d1, d2] }
  | _ => none }
def RunsMemoryWrongFalsely : Prop := runsMemoryRow.holds Try.pinned (OpenSpec.ofChange runsMemoryWrong)

/- THE SECOND FORM. 'bulk': how many values and letters a reading holds, each counted each time it is reached (what is shared counts as often as it is met; a slice's spare places count too). A statement '..UptoSaid' is the law's where the arguments, and the package variables that the reading takes, are together of bulk at most 1048576: NARROWER than '..Said'. Prove '..Said' where nothing that the law and all that it calls make is longer than what came in: it says more and counts as full. Else prove '..UptoSaid'. A law counts once. -/
mutual
def uptoBulk {H : Type} : DataW H → Nat
  | .lit (.string bytes) => bytes.length + 1
  | .lit _ => 1
  | .nil => 1
  | .ptr d => uptoBulk d + 1
  | .slice elems spare => uptoBulkAll elems + uptoBulkAll spare + 1
  | .agg parts => uptoBulkAll parts + 1
  | .iface _ d => uptoBulk d + 1
  | .map entries => uptoBulkEntries entries + 1
  | .held _ => 1
def uptoBulkAll {H : Type} : List (DataW H) → Nat
  | [] => 0
  | d :: r => uptoBulk d + uptoBulkAll r
def uptoBulkEntries {H : Type} : List (Lit × DataW H) → Nat
  | [] => 0
  | x :: r => uptoBulkEntry x + uptoBulkEntries r
def uptoBulkEntry {H : Type} : Lit × DataW H → Nat
  | (.string bytes, d) => bytes.length + uptoBulk d + 1
  | (_, d) => uptoBulk d + 1
 end
def uptoSmall : (H : Type) → List (DataW H) → Bool := fun _ ds => decide (uptoBulkAll ds ≤ 1048576)
def OpenSpec.upto (s : _root_.Go.ChangeSpec) : _root_.Go.OpenSpec := { _root_.Go.OpenSpec.ofChange s with cond := some uptoSmall }

/-- 'colonnadelaw10.RunsNames', WHERE WHAT IT READS IS OF BULK AT MOST 1048576: true; the input reads as it did. -/
def runsNamesUptoRow : OpenClaim := { program := "ythlpkdmandcngaa", sum := "8aac2a10519a4f55a036fb54aa6e5d6cea565c2813739fac01d37768dee54ce5", func := "colonnade/colonnadelaw10.RunsNames", spec := "runsNames", apart := false, narrowed := true }
def RunsNamesUptoSaid : Prop := runsNamesUptoRow.holds Try.pinned (OpenSpec.upto runsNamesSpec)

/-- 'colonnadelaw10.RunsFolds', WHERE WHAT IT READS IS OF BULK AT MOST 1048576: true; the input reads as it did. -/
def runsFoldsUptoRow : OpenClaim := { program := "ythlpkdmandcngaa", sum := "8aac2a10519a4f55a036fb54aa6e5d6cea565c2813739fac01d37768dee54ce5", func := "colonnade/colonnadelaw10.RunsFolds", spec := "runsFolds", unfollowed := true, recurses := true, apart := false, narrowed := true }
def RunsFoldsUptoSaid : Prop := runsFoldsUptoRow.holds Try.pinned (OpenSpec.upto runsFoldsSpec)

/-- 'colonnadelaw10.RunsReads', WHERE WHAT IT READS IS OF BULK AT MOST 1048576: true; the input reads as it did. -/
def runsReadsUptoRow : OpenClaim := { program := "ythlpkdmandcngaa", sum := "8aac2a10519a4f55a036fb54aa6e5d6cea565c2813739fac01d37768dee54ce5", func := "colonnade/colonnadelaw10.RunsReads", spec := "runsReads", unfollowed := true, recurses := true, apart := false, narrowed := true }
def RunsReadsUptoSaid : Prop := runsReadsUptoRow.holds Try.pinned (OpenSpec.upto runsReadsSpec)

/-- 'colonnadelaw10.RunsFewest', WHERE WHAT IT READS IS OF BULK AT MOST 1048576: true; the input reads as it did. -/
def runsFewestUptoRow : OpenClaim := { program := "ythlpkdmandcngaa", sum := "8aac2a10519a4f55a036fb54aa6e5d6cea565c2813739fac01d37768dee54ce5", func := "colonnade/colonnadelaw10.RunsFewest", spec := "runsFewest", unfollowed := true, recurses := true, apart := false, narrowed := true }
def RunsFewestUptoSaid : Prop := runsFewestUptoRow.holds Try.pinned (OpenSpec.upto runsFewestSpec)

/-- 'colonnadelaw10.RunsBack', WHERE WHAT IT READS IS OF BULK AT MOST 1048576: true; the input reads as it did. -/
def runsBackUptoRow : OpenClaim := { program := "ythlpkdmandcngaa", sum := "8aac2a10519a4f55a036fb54aa6e5d6cea565c2813739fac01d37768dee54ce5", func := "colonnade/colonnadelaw10.RunsBack", spec := "runsBack", unfollowed := true, recurses := true, apart := false, narrowed := true }
def RunsBackUptoSaid : Prop := runsBackUptoRow.holds Try.pinned (OpenSpec.upto runsBackSpec)

/-- 'colonnadelaw10.RunsForm', WHERE WHAT IT READS IS OF BULK AT MOST 1048576: true; the input reads as it did. -/
def runsFormUptoRow : OpenClaim := { program := "ythlpkdmandcngaa", sum := "8aac2a10519a4f55a036fb54aa6e5d6cea565c2813739fac01d37768dee54ce5", func := "colonnade/colonnadelaw10.RunsForm", spec := "runsForm", unfollowed := true, recurses := true, apart := false, narrowed := true }
def RunsFormUptoSaid : Prop := runsFormUptoRow.holds Try.pinned (OpenSpec.upto runsFormSpec)

/-- 'colonnadelaw10.RunsMemory', WHERE WHAT IT READS IS OF BULK AT MOST 1048576: true; the input reads as it did. -/
def runsMemoryUptoRow : OpenClaim := { program := "ythlpkdmandcngaa", sum := "8aac2a10519a4f55a036fb54aa6e5d6cea565c2813739fac01d37768dee54ce5", func := "colonnade/colonnadelaw10.RunsMemory", spec := "runsMemory", unfollowed := true, recurses := true, apart := false, narrowed := true }
def RunsMemoryUptoSaid : Prop := runsMemoryUptoRow.holds Try.pinned (OpenSpec.upto runsMemorySpec)

end Rows
end Go.Proofs.Ythlpkdmandcngaa
