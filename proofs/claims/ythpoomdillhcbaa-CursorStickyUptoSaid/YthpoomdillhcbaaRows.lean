/-
  No cell of these rows narrows 'for every input' (looked for: loops, veiled, ifaces, maps, wideKeys, modest, calm, conditions, laid).
  DERIVED. THE GIVEN ROWS OF THIS SEAT. 8 by the template 'for every input the law returns true; each argument reads behind the call as it read before'; 0 by the template 'total and deterministic' (their statements: YthpoomdillhcbaaTotals.lean).
  GIVEN WITH THE SEED: the statements are not yours to turn. If you find one false, say at which input.
  Laid BY PROGRAM, IN A SANDBOX (cutbox-rows.mjs): the forced cells as the released guide's own fill.sh prints them over the translation 03dfc0a39c98926c… (all of the seat's roots in one cut). By AI agents, Wed Nov 11 2026. No macro, syntax, notation, axiom, sorry.
-/
import Derived.Test.YthpoomdillhcbaaChecked
import GoSem.Claim
import GoSem.ClaimJoined
import GoSem.ClaimMapViews
import Derived.JoinedTies
import Derived.KernelRfl
namespace Go.Proofs.Ythpoomdillhcbaa
/- THE CELL 'sum', in the pinned program and in every row, IS THE sha256 OF THE DUMP (.gsa) THAT YthpoomdillhcbaaProg.lean LOADS. Nothing in Lean hashes anything: it is a label: what it is worth is what the hold of that sum in a sandbox is worth. -/
noncomputable def Try.pinned : Pinned := { name := "ythpoomdillhcbaa", sum := "03dfc0a39c98926ccabdf3f784916ccd6dfde62793910ed42eba31309b3aca10", checked := Try.checked }
namespace Rows
def none {H : Type} : Left H := { results := [], args := [] }

/-- 'colonnadelaw07.CursorNames': WHATEVER THE INPUT: true; the input reads as it did. -/
def cursorNamesSpec : ChangeSpec := { name := "cursorNames", fn := fun _ => fun
  | [] => { results := [.lit (.bool true)], args := [] }
  | _ => none }
def cursorNamesRow : OpenClaim := { program := "ythpoomdillhcbaa", sum := "03dfc0a39c98926ccabdf3f784916ccd6dfde62793910ed42eba31309b3aca10", func := "colonnade/colonnadelaw07.CursorNames", spec := "cursorNames", apart := false }
def CursorNamesSaid : Prop := cursorNamesRow.holds Try.pinned (OpenSpec.ofChange cursorNamesSpec)

/-- ITS FALSE NEIGHBOUR: 'it returns false'. Refute it at one input. -/
def cursorNamesWrong : ChangeSpec := { name := "cursorNames", fn := fun _ => fun
  | [] => { results := [.lit (.bool false)], args := [] }
  | _ => none }
def CursorNamesWrongFalsely : Prop := cursorNamesRow.holds Try.pinned (OpenSpec.ofChange cursorNamesWrong)

/-- 'colonnadelaw07.CursorShort': WHATEVER THE INPUT: true; the input reads as it did. -/
def cursorShortSpec : ChangeSpec := { name := "cursorShort", fn := fun _ => fun
  | [d1, d2] => { results := [.lit (.bool true)], args := [d1, d2] }
  | _ => none }
def cursorShortRow : OpenClaim := { program := "ythpoomdillhcbaa", sum := "03dfc0a39c98926ccabdf3f784916ccd6dfde62793910ed42eba31309b3aca10", func := "colonnade/colonnadelaw07.CursorShort", spec := "cursorShort", apart := false }
def CursorShortSaid : Prop := cursorShortRow.holds Try.pinned (OpenSpec.ofChange cursorShortSpec)

/-- ITS FALSE NEIGHBOUR: 'it returns false'. Refute it at one input. -/
def cursorShortWrong : ChangeSpec := { name := "cursorShort", fn := fun _ => fun
  | [d1, d2] => { results := [.lit (.bool false)], args := [d1, d2] }
  | _ => none }
def CursorShortWrongFalsely : Prop := cursorShortRow.holds Try.pinned (OpenSpec.ofChange cursorShortWrong)

/-- 'colonnadelaw07.CursorPuts': WHATEVER THE INPUT: true; the input reads as it did. -/
def cursorPutsSpec : ChangeSpec := { name := "cursorPuts", fn := fun _ => fun
  | [d] => { results := [.lit (.bool true)], args := [d] }
  | _ => none }
def cursorPutsRow : OpenClaim := { program := "ythpoomdillhcbaa", sum := "03dfc0a39c98926ccabdf3f784916ccd6dfde62793910ed42eba31309b3aca10", func := "colonnade/colonnadelaw07.CursorPuts", spec := "cursorPuts", apart := false }
def CursorPutsSaid : Prop := cursorPutsRow.holds Try.pinned (OpenSpec.ofChange cursorPutsSpec)

/-- ITS FALSE NEIGHBOUR: 'it returns false'. Refute it at one input. -/
def cursorPutsWrong : ChangeSpec := { name := "cursorPuts", fn := fun _ => fun
  | [d] => { results := [.lit (.bool false)], args := [d] }
  | _ => none }
def CursorPutsWrongFalsely : Prop := cursorPutsRow.holds Try.pinned (OpenSpec.ofChange cursorPutsWrong)

/-- 'colonnadelaw07.CursorReads': WHATEVER THE INPUT: true; the input reads as it did. -/
def cursorReadsSpec : ChangeSpec := { name := "cursorReads", fn := fun _ => fun
  | [d1, d2, d3] => { results := [.lit (.bool true)], args := [d1, d2, d3] }
  | _ => none }
def cursorReadsRow : OpenClaim := { program := "ythpoomdillhcbaa", sum := "03dfc0a39c98926ccabdf3f784916ccd6dfde62793910ed42eba31309b3aca10", func := "colonnade/colonnadelaw07.CursorReads", spec := "cursorReads", unfollowed := true, recurses := true, apart := false }
def CursorReadsSaid : Prop := cursorReadsRow.holds Try.pinned (OpenSpec.ofChange cursorReadsSpec)

/-- ITS FALSE NEIGHBOUR: 'it returns false'. Refute it at one input. -/
def cursorReadsWrong : ChangeSpec := { name := "cursorReads", fn := fun _ => fun
  | [d1, d2, d3] => { results := [.lit (.bool false)], args := [d1, d2, d3] }
  | _ => none }
def CursorReadsWrongFalsely : Prop := cursorReadsRow.holds Try.pinned (OpenSpec.ofChange cursorReadsWrong)

/-- 'colonnadelaw07.CursorMemory': WHATEVER THE INPUT: true; the input reads as it did. -/
def cursorMemorySpec : ChangeSpec := { name := "cursorMemory", fn := fun _ => fun
  | [d1, d2] => { results := [.lit (.bool true)], args := [d1, d2] }
  | _ => none }
def cursorMemoryRow : OpenClaim := { program := "ythpoomdillhcbaa", sum := "03dfc0a39c98926ccabdf3f784916ccd6dfde62793910ed42eba31309b3aca10", func := "colonnade/colonnadelaw07.CursorMemory", spec := "cursorMemory", unfollowed := true, recurses := true, apart := false }
def CursorMemorySaid : Prop := cursorMemoryRow.holds Try.pinned (OpenSpec.ofChange cursorMemorySpec)

/-- ITS FALSE NEIGHBOUR: 'it returns false'. Refute it at one input. -/
def cursorMemoryWrong : ChangeSpec := { name := "cursorMemory", fn := fun _ => fun
  | [d1, d2] => { results := [.lit (.bool false)], args := [d1, d2] }
  | _ => none }
def CursorMemoryWrongFalsely : Prop := cursorMemoryRow.holds Try.pinned (OpenSpec.ofChange cursorMemoryWrong)

/-- 'colonnadelaw07.CursorSticky': WHATEVER THE INPUT: true; the input reads as it did. -/
def cursorStickySpec : ChangeSpec := { name := "cursorSticky", fn := fun _ => fun
  | [d1, d2] => { results := [.lit (.bool true)], args := [d1, d2] }
  | _ => none }
def cursorStickyRow : OpenClaim := { program := "ythpoomdillhcbaa", sum := "03dfc0a39c98926ccabdf3f784916ccd6dfde62793910ed42eba31309b3aca10", func := "colonnade/colonnadelaw07.CursorSticky", spec := "cursorSticky", unfollowed := true, recurses := true, apart := false }
def CursorStickySaid : Prop := cursorStickyRow.holds Try.pinned (OpenSpec.ofChange cursorStickySpec)

/-- ITS FALSE NEIGHBOUR: 'it returns false'. Refute it at one input. -/
def cursorStickyWrong : ChangeSpec := { name := "cursorSticky", fn := fun _ => fun
  | [d1, d2] => { results := [.lit (.bool false)], args := [d1, d2] }
  | _ => none }
def CursorStickyWrongFalsely : Prop := cursorStickyRow.holds Try.pinned (OpenSpec.ofChange cursorStickyWrong)

/-- 'colonnadelaw07.CursorBack': WHATEVER THE INPUT: true; the input reads as it did. -/
def cursorBackSpec : ChangeSpec := { name := "cursorBack", fn := fun _ => fun
  | [d1, d2] => { results := [.lit (.bool true)], args := [d1, d2] }
  | _ => none }
def cursorBackRow : OpenClaim := { program := "ythpoomdillhcbaa", sum := "03dfc0a39c98926ccabdf3f784916ccd6dfde62793910ed42eba31309b3aca10", func := "colonnade/colonnadelaw07.CursorBack", spec := "cursorBack", unfollowed := true, recurses := true, apart := false }
def CursorBackSaid : Prop := cursorBackRow.holds Try.pinned (OpenSpec.ofChange cursorBackSpec)

/-- ITS FALSE NEIGHBOUR: 'it returns false'. Refute it at one input. -/
def cursorBackWrong : ChangeSpec := { name := "cursorBack", fn := fun _ => fun
  | [d1, d2] => { results := [.lit (.bool false)], args := [d1, d2] }
  | _ => none }
def CursorBackWrongFalsely : Prop := cursorBackRow.holds Try.pinned (OpenSpec.ofChange cursorBackWrong)

/-- 'colonnadelaw07.CursorForm': WHATEVER THE INPUT: true; the input reads as it did. -/
def cursorFormSpec : ChangeSpec := { name := "cursorForm", fn := fun _ => fun
  | [d1, d2] => { results := [.lit (.bool true)], args := [d1, d2] }
  | _ => none }
def cursorFormRow : OpenClaim := { program := "ythpoomdillhcbaa", sum := "03dfc0a39c98926ccabdf3f784916ccd6dfde62793910ed42eba31309b3aca10", func := "colonnade/colonnadelaw07.CursorForm", spec := "cursorForm", unfollowed := true, recurses := true, apart := false }
def CursorFormSaid : Prop := cursorFormRow.holds Try.pinned (OpenSpec.ofChange cursorFormSpec)

/-- ITS FALSE NEIGHBOUR: 'it returns false'. Refute it at one input. -/
def cursorFormWrong : ChangeSpec := { name := "cursorForm", fn := fun _ => fun
  | [d1, d2] => { results := [.lit (.bool false)], args := [d1, d2] }
  | _ => none }
def CursorFormWrongFalsely : Prop := cursorFormRow.holds Try.pinned (OpenSpec.ofChange cursorFormWrong)

/- THE SECOND FORM. 'bulk': how many values and letters a reading holds, each counted each time it is reached (what is shared counts as often as it is met; a slice's spare places count too). A statement '..UptoSaid' is the law's where the arguments, and the package variables that the reading takes, are together of bulk at most 1048576: NARROWER than '..Said'. Prove '..Said' where nothing that the law and all that it calls make is longer than what came in: it says more and counts as full. Else prove '..UptoSaid'. A law counts once. -/
mutual
def uptoBulk {H : Type} : DataW H → Nat
  | .lit (.string bytes) => bytes.length + 1
  | .lit _ => 1
  | .nil => 1
  | .ptr d => uptoBulk d + 1
  | .slice elems spare => uptoBulkAll elems + uptoBulkAll spare + 1
  | .agg parts => uptoBulkAll parts + 1
  | .iface _ d => uptoBulk d + 1
  | .map entries => uptoBulkEntries entries + 1
  | .held _ => 1
def uptoBulkAll {H : Type} : List (DataW H) → Nat
  | [] => 0
  | d :: r => uptoBulk d + uptoBulkAll r
def uptoBulkEntries {H : Type} : List (Lit × DataW H) → Nat
  | [] => 0
  | x :: r => uptoBulkEntry x + uptoBulkEntries r
def uptoBulkEntry {H : Type} : Lit × DataW H → Nat
  | (.string bytes, d) => bytes.length + uptoBulk d + 1
  | (_, d) => uptoBulk d + 1
 end
def uptoSmall : (H : Type) → List (DataW H) → Bool := fun _ ds => decide (uptoBulkAll ds ≤ 1048576)
def OpenSpec.upto (s : _root_.Go.ChangeSpec) : _root_.Go.OpenSpec := { _root_.Go.OpenSpec.ofChange s with cond := some uptoSmall }

/-- 'colonnadelaw07.CursorNames', WHERE WHAT IT READS IS OF BULK AT MOST 1048576: true; the input reads as it did. -/
def cursorNamesUptoRow : OpenClaim := { program := "ythpoomdillhcbaa", sum := "03dfc0a39c98926ccabdf3f784916ccd6dfde62793910ed42eba31309b3aca10", func := "colonnade/colonnadelaw07.CursorNames", spec := "cursorNames", apart := false, narrowed := true }
def CursorNamesUptoSaid : Prop := cursorNamesUptoRow.holds Try.pinned (OpenSpec.upto cursorNamesSpec)

/-- 'colonnadelaw07.CursorShort', WHERE WHAT IT READS IS OF BULK AT MOST 1048576: true; the input reads as it did. -/
def cursorShortUptoRow : OpenClaim := { program := "ythpoomdillhcbaa", sum := "03dfc0a39c98926ccabdf3f784916ccd6dfde62793910ed42eba31309b3aca10", func := "colonnade/colonnadelaw07.CursorShort", spec := "cursorShort", apart := false, narrowed := true }
def CursorShortUptoSaid : Prop := cursorShortUptoRow.holds Try.pinned (OpenSpec.upto cursorShortSpec)

/-- 'colonnadelaw07.CursorPuts', WHERE WHAT IT READS IS OF BULK AT MOST 1048576: true; the input reads as it did. -/
def cursorPutsUptoRow : OpenClaim := { program := "ythpoomdillhcbaa", sum := "03dfc0a39c98926ccabdf3f784916ccd6dfde62793910ed42eba31309b3aca10", func := "colonnade/colonnadelaw07.CursorPuts", spec := "cursorPuts", apart := false, narrowed := true }
def CursorPutsUptoSaid : Prop := cursorPutsUptoRow.holds Try.pinned (OpenSpec.upto cursorPutsSpec)

/-- 'colonnadelaw07.CursorReads', WHERE WHAT IT READS IS OF BULK AT MOST 1048576: true; the input reads as it did. -/
def cursorReadsUptoRow : OpenClaim := { program := "ythpoomdillhcbaa", sum := "03dfc0a39c98926ccabdf3f784916ccd6dfde62793910ed42eba31309b3aca10", func := "colonnade/colonnadelaw07.CursorReads", spec := "cursorReads", unfollowed := true, recurses := true, apart := false, narrowed := true }
def CursorReadsUptoSaid : Prop := cursorReadsUptoRow.holds Try.pinned (OpenSpec.upto cursorReadsSpec)

/-- 'colonnadelaw07.CursorMemory', WHERE WHAT IT READS IS OF BULK AT MOST 1048576: true; the input reads as it did. -/
def cursorMemoryUptoRow : OpenClaim := { program := "ythpoomdillhcbaa", sum := "03dfc0a39c98926ccabdf3f784916ccd6dfde62793910ed42eba31309b3aca10", func := "colonnade/colonnadelaw07.CursorMemory", spec := "cursorMemory", unfollowed := true, recurses := true, apart := false, narrowed := true }
def CursorMemoryUptoSaid : Prop := cursorMemoryUptoRow.holds Try.pinned (OpenSpec.upto cursorMemorySpec)

/-- 'colonnadelaw07.CursorSticky', WHERE WHAT IT READS IS OF BULK AT MOST 1048576: true; the input reads as it did. -/
def cursorStickyUptoRow : OpenClaim := { program := "ythpoomdillhcbaa", sum := "03dfc0a39c98926ccabdf3f784916ccd6dfde62793910ed42eba31309b3aca10", func := "colonnade/colonnadelaw07.CursorSticky", spec := "cursorSticky", unfollowed := true, recurses := true, apart := false, narrowed := true }
def CursorStickyUptoSaid : Prop := cursorStickyUptoRow.holds Try.pinned (OpenSpec.upto cursorStickySpec)

/-- 'colonnadelaw07.CursorBack', WHERE WHAT IT READS IS OF BULK AT MOST 1048576: true; the input reads as it did. -/
def cursorBackUptoRow : OpenClaim := { program := "ythpoomdillhcbaa", sum := "03dfc0a39c98926ccabdf3f784916ccd6dfde62793910ed42eba31309b3aca10", func := "colonnade/colonnadelaw07.CursorBack", spec := "cursorBack", unfollowed := true, recurses := true, apart := false, narrowed := true }
def CursorBackUptoSaid : Prop := cursorBackUptoRow.holds Try.pinned (OpenSpec.upto cursorBackSpec)

/-- 'colonnadelaw07.CursorForm', WHERE WHAT IT READS IS OF BULK AT MOST 1048576: true; the input reads as it did. -/
def cursorFormUptoRow : OpenClaim := { program := "ythpoomdillhcbaa", sum := "03dfc0a39c98926ccabdf3f784916ccd6dfde62793910ed42eba31309b3aca10", func := "colonnade/colonnadelaw07.CursorForm", spec := "cursorForm", unfollowed := true, recurses := true, apart := false, narrowed := true }
def CursorFormUptoSaid : Prop := cursorFormUptoRow.holds Try.pinned (OpenSpec.upto cursorFormSpec)

end Rows
end Go.Proofs.Ythpoomdillhcbaa
