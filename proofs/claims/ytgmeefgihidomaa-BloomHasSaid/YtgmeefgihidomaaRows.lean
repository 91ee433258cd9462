/-
  No cell of these rows narrows 'for every input' (looked for: loops, veiled, ifaces, maps, wideKeys, modest, calm, conditions, laid).
  DERIVED. THE GIVEN ROWS OF THIS SEAT. 7 by the template 'for every input the law returns true; each argument reads behind the call as it read before'; 0 by the template 'total and deterministic' (their statements: YtgmeefgihidomaaTotals.lean).
  GIVEN WITH THE SEED: the statements are not yours to turn. If you find one false, say at which input.
  Laid BY PROGRAM, IN A SANDBOX (cutbox-rows.mjs): the forced cells as the released guide's own fill.sh prints them over the translation b70e4b2065329d51… (all of the seat's roots in one cut). By AI agents, Wed Nov 11 2026. No macro, syntax, notation, axiom, sorry.
-/
import Derived.Test.YtgmeefgihidomaaChecked
import GoSem.Claim
import GoSem.ClaimJoined
import GoSem.ClaimMapViews
import Derived.JoinedTies
import Derived.KernelRfl
namespace Go.Proofs.Ytgmeefgihidomaa
/- THE CELL 'sum', in the pinned program and in every row, IS THE sha256 OF THE DUMP (.gsa) THAT YtgmeefgihidomaaProg.lean LOADS. Nothing in Lean hashes anything: it is a label: what it is worth is what the hold of that sum in a sandbox is worth. -/
noncomputable def Try.pinned : Pinned := { name := "ytgmeefgihidomaa", sum := "b70e4b2065329d511c4a103b31c2ea682b86e0c64a121129dc70eea96c2d357e", checked := Try.checked }
namespace Rows
def none {H : Type} : Left H := { results := [], args := [] }

/-- 'colonnadelaw13.BloomNames': WHATEVER THE INPUT: true; the input reads as it did. -/
def bloomNamesSpec : ChangeSpec := { name := "bloomNames", fn := fun _ => fun
  | [] => { results := [.lit (.bool true)], args := [] }
  | _ => none }
def bloomNamesRow : OpenClaim := { program := "ytgmeefgihidomaa", sum := "b70e4b2065329d511c4a103b31c2ea682b86e0c64a121129dc70eea96c2d357e", func := "colonnade/colonnadelaw13.BloomNames", spec := "bloomNames", apart := false }
def BloomNamesSaid : Prop := bloomNamesRow.holds Try.pinned (OpenSpec.ofChange bloomNamesSpec)

/-- ITS FALSE NEIGHBOUR: 'it returns false'. Refute it at one input. -/
def bloomNamesWrong : ChangeSpec := { name := "bloomNames", fn := fun _ => fun
  | [] => { results := [.lit (.bool false)], args := [] }
  | _ => none }
def BloomNamesWrongFalsely : Prop := bloomNamesRow.holds Try.pinned (OpenSpec.ofChange bloomNamesWrong)

/-- 'colonnadelaw13.BloomJoins': WHATEVER THE INPUT: true; the input reads as it did. -/
def bloomJoinsSpec : ChangeSpec := { name := "bloomJoins", fn := fun _ => fun
  | [d] => { results := [.lit (.bool true)], args := [d] }
  | _ => none }
def bloomJoinsRow : OpenClaim := { program := "ytgmeefgihidomaa", sum := "b70e4b2065329d511c4a103b31c2ea682b86e0c64a121129dc70eea96c2d357e", func := "colonnade/colonnadelaw13.BloomJoins", spec := "bloomJoins", apart := false }
def BloomJoinsSaid : Prop := bloomJoinsRow.holds Try.pinned (OpenSpec.ofChange bloomJoinsSpec)

/-- ITS FALSE NEIGHBOUR: 'it returns false'. Refute it at one input. -/
def bloomJoinsWrong : ChangeSpec := { name := "bloomJoins", fn := fun _ => fun
  | [d] => { results := [.lit (.bool false)], args := [d] }
  | _ => none }
def BloomJoinsWrongFalsely : Prop := bloomJoinsRow.holds Try.pinned (OpenSpec.ofChange bloomJoinsWrong)

/-- 'colonnadelaw13.BloomBuilds': WHATEVER THE INPUT: true; the input reads as it did. -/
def bloomBuildsSpec : ChangeSpec := { name := "bloomBuilds", fn := fun _ => fun
  | [d1, d2] => { results := [.lit (.bool true)], args := [d1, d2] }
  | _ => none }
def bloomBuildsRow : OpenClaim := { program := "ytgmeefgihidomaa", sum := "b70e4b2065329d511c4a103b31c2ea682b86e0c64a121129dc70eea96c2d357e", func := "colonnade/colonnadelaw13.BloomBuilds", spec := "bloomBuilds", inPlace := ["math.Float64bits", "math.Float64frombits"], apart := false }
def BloomBuildsSaid : Prop := bloomBuildsRow.holds Try.pinned (OpenSpec.ofChange bloomBuildsSpec)

/-- ITS FALSE NEIGHBOUR: 'it returns false'. Refute it at one input. -/
def bloomBuildsWrong : ChangeSpec := { name := "bloomBuilds", fn := fun _ => fun
  | [d1, d2] => { results := [.lit (.bool false)], args := [d1, d2] }
  | _ => none }
def BloomBuildsWrongFalsely : Prop := bloomBuildsRow.holds Try.pinned (OpenSpec.ofChange bloomBuildsWrong)

/-- 'colonnadelaw13.BloomHas': WHATEVER THE INPUT: true; the input reads as it did. -/
def bloomHasSpec : ChangeSpec := { name := "bloomHas", fn := fun _ => fun
  | [d1, d2] => { results := [.lit (.bool true)], args := [d1, d2] }
  | _ => none }
def bloomHasRow : OpenClaim := { program := "ytgmeefgihidomaa", sum := "b70e4b2065329d511c4a103b31c2ea682b86e0c64a121129dc70eea96c2d357e", func := "colonnade/colonnadelaw13.BloomHas", spec := "bloomHas", inPlace := ["math.Float64bits", "math.Float64frombits"], apart := false }
def BloomHasSaid : Prop := bloomHasRow.holds Try.pinned (OpenSpec.ofChange bloomHasSpec)

/-- ITS FALSE NEIGHBOUR: 'it returns false'. Refute it at one input. -/
def bloomHasWrong : ChangeSpec := { name := "bloomHas", fn := fun _ => fun
  | [d1, d2] => { results := [.lit (.bool false)], args := [d1, d2] }
  | _ => none }
def BloomHasWrongFalsely : Prop := bloomHasRow.holds Try.pinned (OpenSpec.ofChange bloomHasWrong)

/-- 'colonnadelaw13.BloomNone': WHATEVER THE INPUT: true; the input reads as it did. -/
def bloomNoneSpec : ChangeSpec := { name := "bloomNone", fn := fun _ => fun
  | [d1, d2, d3] => { results := [.lit (.bool true)], args := [d1, d2, d3] }
  | _ => none }
def bloomNoneRow : OpenClaim := { program := "ytgmeefgihidomaa", sum := "b70e4b2065329d511c4a103b31c2ea682b86e0c64a121129dc70eea96c2d357e", func := "colonnade/colonnadelaw13.BloomNone", spec := "bloomNone", inPlace := ["math.Float64bits", "math.Float64frombits"], apart := false }
def BloomNoneSaid : Prop := bloomNoneRow.holds Try.pinned (OpenSpec.ofChange bloomNoneSpec)

/-- ITS FALSE NEIGHBOUR: 'it returns false'. Refute it at one input. -/
def bloomNoneWrong : ChangeSpec := { name := "bloomNone", fn := fun _ => fun
  | [d1, d2, d3] => { results := [.lit (.bool false)], args := [d1, d2, d3] }
  | _ => none }
def BloomNoneWrongFalsely : Prop := bloomNoneRow.holds Try.pinned (OpenSpec.ofChange bloomNoneWrong)

/-- 'colonnadelaw13.BloomUnion': WHATEVER THE INPUT: true; the input reads as it did. -/
def bloomUnionSpec : ChangeSpec := { name := "bloomUnion", fn := fun _ => fun
  | [d1, d2] => { results := [.lit (.bool true)], args := [d1, d2] }
  | _ => none }
def bloomUnionRow : OpenClaim := { program := "ytgmeefgihidomaa", sum := "b70e4b2065329d511c4a103b31c2ea682b86e0c64a121129dc70eea96c2d357e", func := "colonnade/colonnadelaw13.BloomUnion", spec := "bloomUnion", inPlace := ["math.Float64bits", "math.Float64frombits"], apart := false }
def BloomUnionSaid : Prop := bloomUnionRow.holds Try.pinned (OpenSpec.ofChange bloomUnionSpec)

/-- ITS FALSE NEIGHBOUR: 'it returns false'. Refute it at one input. -/
def bloomUnionWrong : ChangeSpec := { name := "bloomUnion", fn := fun _ => fun
  | [d1, d2] => { results := [.lit (.bool false)], args := [d1, d2] }
  | _ => none }
def BloomUnionWrongFalsely : Prop := bloomUnionRow.holds Try.pinned (OpenSpec.ofChange bloomUnionWrong)

/-- 'colonnadelaw13.BloomMemory': WHATEVER THE INPUT: true; the input reads as it did. -/
def bloomMemorySpec : ChangeSpec := { name := "bloomMemory", fn := fun _ => fun
  | [d1, d2] => { results := [.lit (.bool true)], args := [d1, d2] }
  | _ => none }
def bloomMemoryRow : OpenClaim := { program := "ytgmeefgihidomaa", sum := "b70e4b2065329d511c4a103b31c2ea682b86e0c64a121129dc70eea96c2d357e", func := "colonnade/colonnadelaw13.BloomMemory", spec := "bloomMemory", inPlace := ["math.Float64bits", "math.Float64frombits"], apart := false }
def BloomMemorySaid : Prop := bloomMemoryRow.holds Try.pinned (OpenSpec.ofChange bloomMemorySpec)

/-- ITS FALSE NEIGHBOUR: 'it returns false'. Refute it at one input. -/
def bloomMemoryWrong : ChangeSpec := { name := "bloomMemory", fn := fun _ => fun
  | [d1, d2] => { results := [.lit (.bool false)], args := [d1, d2] }
  | _ => none }
def BloomMemoryWrongFalsely : Prop := bloomMemoryRow.holds Try.pinned (OpenSpec.ofChange bloomMemoryWrong)

/- THE SECOND FORM. 'bulk': how many values and letters a reading holds, each counted each time it is reached (what is shared counts as often as it is met; a slice's spare places count too). A statement '..UptoSaid' is the law's where the arguments, and the package variables that the reading takes, are together of bulk at most 1048576: NARROWER than '..Said'. Prove '..Said' where nothing that the law and all that it calls make is longer than what came in: it says more and counts as full. Else prove '..UptoSaid'. A law counts once. -/
mutual
def uptoBulk {H : Type} : DataW H → Nat
  | .lit (.string bytes) => bytes.length + 1
  | .lit _ => 1
  | .nil => 1
  | .ptr d => uptoBulk d + 1
  | .slice elems spare => uptoBulkAll elems + uptoBulkAll spare + 1
  | .agg parts => uptoBulkAll parts + 1
  | .iface _ d => uptoBulk d + 1
  | .map entries => uptoBulkEntries entries + 1
  | .held _ => 1
def uptoBulkAll {H : Type} : List (DataW H) → Nat
  | [] => 0
  | d :: r => uptoBulk d + uptoBulkAll r
def uptoBulkEntries {H : Type} : List (Lit × DataW H) → Nat
  | [] => 0
  | x :: r => uptoBulkEntry x + uptoBulkEntries r
def uptoBulkEntry {H : Type} : Lit × DataW H → Nat
  | (.string bytes, d) => bytes.length + uptoBulk d + 1
  | (_, d) => uptoBulk d + 1
 end
def uptoSmall : (H : Type) → List (DataW H) → Bool := fun _ ds => decide (uptoBulkAll ds ≤ 1048576)
def OpenSpec.upto (s : _root_.Go.ChangeSpec) : _root_.Go.OpenSpec := { _root_.Go.OpenSpec.ofChange s with cond := some uptoSmall }

/-- 'colonnadelaw13.BloomNames', WHERE WHAT IT READS IS OF BULK AT MOST 1048576: true; the input reads as it did. -/
def bloomNamesUptoRow : OpenClaim := { program := "ytgmeefgihidomaa", sum := "b70e4b2065329d511c4a103b31c2ea682b86e0c64a121129dc70eea96c2d357e", func := "colonnade/colonnadelaw13.BloomNames", spec := "bloomNames", apart := false, narrowed := true }
def BloomNamesUptoSaid : Prop := bloomNamesUptoRow.holds Try.pinned (OpenSpec.upto bloomNamesSpec)

/-- 'colonnadelaw13.BloomJoins', WHERE WHAT IT READS IS OF BULK AT MOST 1048576: true; the input reads as it did. -/
def bloomJoinsUptoRow : OpenClaim := { program := "ytgmeefgihidomaa", sum := "b70e4b2065329d511c4a103b31c2ea682b86e0c64a121129dc70eea96c2d357e", func := "colonnade/colonnadelaw13.BloomJoins", spec := "bloomJoins", apart := false, narrowed := true }
def BloomJoinsUptoSaid : Prop := bloomJoinsUptoRow.holds Try.pinned (OpenSpec.upto bloomJoinsSpec)

/-- 'colonnadelaw13.BloomBuilds', WHERE WHAT IT READS IS OF BULK AT MOST 1048576: true; the input reads as it did. -/
def bloomBuildsUptoRow : OpenClaim := { program := "ytgmeefgihidomaa", sum := "b70e4b2065329d511c4a103b31c2ea682b86e0c64a121129dc70eea96c2d357e", func := "colonnade/colonnadelaw13.BloomBuilds", spec := "bloomBuilds", inPlace := ["math.Float64bits", "math.Float64frombits"], apart := false, narrowed := true }
def BloomBuildsUptoSaid : Prop := bloomBuildsUptoRow.holds Try.pinned (OpenSpec.upto bloomBuildsSpec)

/-- 'colonnadelaw13.BloomHas', WHERE WHAT IT READS IS OF BULK AT MOST 1048576: true; the input reads as it did. -/
def bloomHasUptoRow : OpenClaim := { program := "ytgmeefgihidomaa", sum := "b70e4b2065329d511c4a103b31c2ea682b86e0c64a121129dc70eea96c2d357e", func := "colonnade/colonnadelaw13.BloomHas", spec := "bloomHas", inPlace := ["math.Float64bits", "math.Float64frombits"], apart := false, narrowed := true }
def BloomHasUptoSaid : Prop := bloomHasUptoRow.holds Try.pinned (OpenSpec.upto bloomHasSpec)

/-- 'colonnadelaw13.BloomNone', WHERE WHAT IT READS IS OF BULK AT MOST 1048576: true; the input reads as it did. -/
def bloomNoneUptoRow : OpenClaim := { program := "ytgmeefgihidomaa", sum := "b70e4b2065329d511c4a103b31c2ea682b86e0c64a121129dc70eea96c2d357e", func := "colonnade/colonnadelaw13.BloomNone", spec := "bloomNone", inPlace := ["math.Float64bits", "math.Float64frombits"], apart := false, narrowed := true }
def BloomNoneUptoSaid : Prop := bloomNoneUptoRow.holds Try.pinned (OpenSpec.upto bloomNoneSpec)

/-- 'colonnadelaw13.BloomUnion', WHERE WHAT IT READS IS OF BULK AT MOST 1048576: true; the input reads as it did. -/
def bloomUnionUptoRow : OpenClaim := { program := "ytgmeefgihidomaa", sum := "b70e4b2065329d511c4a103b31c2ea682b86e0c64a121129dc70eea96c2d357e", func := "colonnade/colonnadelaw13.BloomUnion", spec := "bloomUnion", inPlace := ["math.Float64bits", "math.Float64frombits"], apart := false, narrowed := true }
def BloomUnionUptoSaid : Prop := bloomUnionUptoRow.holds Try.pinned (OpenSpec.upto bloomUnionSpec)

/-- 'colonnadelaw13.BloomMemory', WHERE WHAT IT READS IS OF BULK AT MOST 1048576: true; the input reads as it did. -/
def bloomMemoryUptoRow : OpenClaim := { program := "ytgmeefgihidomaa", sum := "b70e4b2065329d511c4a103b31c2ea682b86e0c64a121129dc70eea96c2d357e", func := "colonnade/colonnadelaw13.BloomMemory", spec := "bloomMemory", inPlace := ["math.Float64bits", "math.Float64frombits"], apart := false, narrowed := true }
def BloomMemoryUptoSaid : Prop := bloomMemoryUptoRow.holds Try.pinned (OpenSpec.upto bloomMemorySpec)

end Rows
end Go.Proofs.Ytgmeefgihidomaa
