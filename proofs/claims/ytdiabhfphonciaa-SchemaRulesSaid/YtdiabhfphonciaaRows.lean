/-
  No cell of these rows narrows 'for every input' (looked for: loops, veiled, ifaces, maps, wideKeys, modest, calm, conditions, laid).
  DERIVED. THE GIVEN ROWS OF THIS SEAT. 9 by the template 'for every input the law returns true; each argument reads behind the call as it read before'; 0 by the template 'total and deterministic' (their statements: YtdiabhfphonciaaTotals.lean).
  GIVEN WITH THE SEED: the statements are not yours to turn. If you find one false, say at which input.
  Laid BY PROGRAM, IN A SANDBOX (cutbox-rows.mjs): the forced cells as the released guide's own fill.sh prints them over the translation 6eb74a396fb4d23d… (all of the seat's roots in one cut). By AI agents, Wed Nov 11 2026. No macro, syntax, notation, axiom, sorry.
-/
import Derived.Test.YtdiabhfphonciaaChecked
import GoSem.Claim
import GoSem.ClaimJoined
import GoSem.ClaimMapViews
import Derived.JoinedTies
import Derived.KernelRfl
namespace Go.Proofs.Ytdiabhfphonciaa
/- THE CELL 'sum', in the pinned program and in every row, IS THE sha256 OF THE DUMP (.gsa) THAT YtdiabhfphonciaaProg.lean LOADS. Nothing in Lean hashes anything: it is a label: what it is worth is what the hold of that sum in a sandbox is worth. -/
noncomputable def Try.pinned : Pinned := { name := "ytdiabhfphonciaa", sum := "6eb74a396fb4d23d5dff25ccbd6efd85fd9158d1d802df243472ae7d1d7b24fe", checked := Try.checked }
namespace Rows
def none {H : Type} : Left H := { results := [], args := [] }

/-- 'colonnadelaw15.SchemaLimits': WHATEVER THE INPUT: true; the input reads as it did. -/
def schemaLimitsSpec : ChangeSpec := { name := "schemaLimits", fn := fun _ => fun
  | [] => { results := [.lit (.bool true)], args := [] }
  | _ => none }
def schemaLimitsRow : OpenClaim := { program := "ytdiabhfphonciaa", sum := "6eb74a396fb4d23d5dff25ccbd6efd85fd9158d1d802df243472ae7d1d7b24fe", func := "colonnade/colonnadelaw15.SchemaLimits", spec := "schemaLimits", unfollowed := true, recurses := true, apart := false }
def SchemaLimitsSaid : Prop := schemaLimitsRow.holds Try.pinned (OpenSpec.ofChange schemaLimitsSpec)

/-- ITS FALSE NEIGHBOUR: 'it returns false'. Refute it at one input. -/
def schemaLimitsWrong : ChangeSpec := { name := "schemaLimits", fn := fun _ => fun
  | [] => { results := [.lit (.bool false)], args := [] }
  | _ => none }
def SchemaLimitsWrongFalsely : Prop := schemaLimitsRow.holds Try.pinned (OpenSpec.ofChange schemaLimitsWrong)

/-- 'colonnadelaw15.SchemaChecks': WHATEVER THE INPUT: true; the input reads as it did. -/
def schemaChecksSpec : ChangeSpec := { name := "schemaChecks", fn := fun _ => fun
  | [d] => { results := [.lit (.bool true)], args := [d] }
  | _ => none }
def schemaChecksRow : OpenClaim := { program := "ytdiabhfphonciaa", sum := "6eb74a396fb4d23d5dff25ccbd6efd85fd9158d1d802df243472ae7d1d7b24fe", func := "colonnade/colonnadelaw15.SchemaChecks", spec := "schemaChecks", unfollowed := true, recurses := true, apart := false }
def SchemaChecksSaid : Prop := schemaChecksRow.holds Try.pinned (OpenSpec.ofChange schemaChecksSpec)

/-- ITS FALSE NEIGHBOUR: 'it returns false'. Refute it at one input. -/
def schemaChecksWrong : ChangeSpec := { name := "schemaChecks", fn := fun _ => fun
  | [d] => { results := [.lit (.bool false)], args := [d] }
  | _ => none }
def SchemaChecksWrongFalsely : Prop := schemaChecksRow.holds Try.pinned (OpenSpec.ofChange schemaChecksWrong)

/-- 'colonnadelaw15.SchemaFinds': WHATEVER THE INPUT: true; the input reads as it did. -/
def schemaFindsSpec : ChangeSpec := { name := "schemaFinds", fn := fun _ => fun
  | [d1, d2, d3] => { results := [.lit (.bool true)], args := [d1, d2, d3] }
  | _ => none }
def schemaFindsRow : OpenClaim := { program := "ytdiabhfphonciaa", sum := "6eb74a396fb4d23d5dff25ccbd6efd85fd9158d1d802df243472ae7d1d7b24fe", func := "colonnade/colonnadelaw15.SchemaFinds", spec := "schemaFinds", unfollowed := true, recurses := true, apart := false }
def SchemaFindsSaid : Prop := schemaFindsRow.holds Try.pinned (OpenSpec.ofChange schemaFindsSpec)

/-- ITS FALSE NEIGHBOUR: 'it returns false'. Refute it at one input. -/
def schemaFindsWrong : ChangeSpec := { name := "schemaFinds", fn := fun _ => fun
  | [d1, d2, d3] => { results := [.lit (.bool false)], args := [d1, d2, d3] }
  | _ => none }
def SchemaFindsWrongFalsely : Prop := schemaFindsRow.holds Try.pinned (OpenSpec.ofChange schemaFindsWrong)

/-- 'colonnadelaw15.SchemaPuts': WHATEVER THE INPUT: true; the input reads as it did. -/
def schemaPutsSpec : ChangeSpec := { name := "schemaPuts", fn := fun _ => fun
  | [d] => { results := [.lit (.bool true)], args := [d] }
  | _ => none }
def schemaPutsRow : OpenClaim := { program := "ytdiabhfphonciaa", sum := "6eb74a396fb4d23d5dff25ccbd6efd85fd9158d1d802df243472ae7d1d7b24fe", func := "colonnade/colonnadelaw15.SchemaPuts", spec := "schemaPuts", unfollowed := true, recurses := true, apart := false }
def SchemaPutsSaid : Prop := schemaPutsRow.holds Try.pinned (OpenSpec.ofChange schemaPutsSpec)

/-- ITS FALSE NEIGHBOUR: 'it returns false'. Refute it at one input. -/
def schemaPutsWrong : ChangeSpec := { name := "schemaPuts", fn := fun _ => fun
  | [d] => { results := [.lit (.bool false)], args := [d] }
  | _ => none }
def SchemaPutsWrongFalsely : Prop := schemaPutsRow.holds Try.pinned (OpenSpec.ofChange schemaPutsWrong)

/-- 'colonnadelaw15.SchemaTakes': WHATEVER THE INPUT: true; the input reads as it did. -/
def schemaTakesSpec : ChangeSpec := { name := "schemaTakes", fn := fun _ => fun
  | [d] => { results := [.lit (.bool true)], args := [d] }
  | _ => none }
def schemaTakesRow : OpenClaim := { program := "ytdiabhfphonciaa", sum := "6eb74a396fb4d23d5dff25ccbd6efd85fd9158d1d802df243472ae7d1d7b24fe", func := "colonnade/colonnadelaw15.SchemaTakes", spec := "schemaTakes", unfollowed := true, recurses := true, apart := false }
def SchemaTakesSaid : Prop := schemaTakesRow.holds Try.pinned (OpenSpec.ofChange schemaTakesSpec)

/-- ITS FALSE NEIGHBOUR: 'it returns false'. Refute it at one input. -/
def schemaTakesWrong : ChangeSpec := { name := "schemaTakes", fn := fun _ => fun
  | [d] => { results := [.lit (.bool false)], args := [d] }
  | _ => none }
def SchemaTakesWrongFalsely : Prop := schemaTakesRow.holds Try.pinned (OpenSpec.ofChange schemaTakesWrong)

/-- 'colonnadelaw15.SchemaRules': WHATEVER THE INPUT: true; the input reads as it did. -/
def schemaRulesSpec : ChangeSpec := { name := "schemaRules", fn := fun _ => fun
  | [d] => { results := [.lit (.bool true)], args := [d] }
  | _ => none }
def schemaRulesRow : OpenClaim := { program := "ytdiabhfphonciaa", sum := "6eb74a396fb4d23d5dff25ccbd6efd85fd9158d1d802df243472ae7d1d7b24fe", func := "colonnade/colonnadelaw15.SchemaRules", spec := "schemaRules", unfollowed := true, recurses := true, apart := false }
def SchemaRulesSaid : Prop := schemaRulesRow.holds Try.pinned (OpenSpec.ofChange schemaRulesSpec)

/-- ITS FALSE NEIGHBOUR: 'it returns false'. Refute it at one input. -/
def schemaRulesWrong : ChangeSpec := { name := "schemaRules", fn := fun _ => fun
  | [d] => { results := [.lit (.bool false)], args := [d] }
  | _ => none }
def SchemaRulesWrongFalsely : Prop := schemaRulesRow.holds Try.pinned (OpenSpec.ofChange schemaRulesWrong)

/-- 'colonnadelaw15.SchemaBack': WHATEVER THE INPUT: true; the input reads as it did. -/
def schemaBackSpec : ChangeSpec := { name := "schemaBack", fn := fun _ => fun
  | [d1, d2, d3] => { results := [.lit (.bool true)], args := [d1, d2, d3] }
  | _ => none }
def schemaBackRow : OpenClaim := { program := "ytdiabhfphonciaa", sum := "6eb74a396fb4d23d5dff25ccbd6efd85fd9158d1d802df243472ae7d1d7b24fe", func := "colonnade/colonnadelaw15.SchemaBack", spec := "schemaBack", unfollowed := true, recurses := true, apart := false }
def SchemaBackSaid : Prop := schemaBackRow.holds Try.pinned (OpenSpec.ofChange schemaBackSpec)

/-- ITS FALSE NEIGHBOUR: 'it returns false'. Refute it at one input. -/
def schemaBackWrong : ChangeSpec := { name := "schemaBack", fn := fun _ => fun
  | [d1, d2, d3] => { results := [.lit (.bool false)], args := [d1, d2, d3] }
  | _ => none }
def SchemaBackWrongFalsely : Prop := schemaBackRow.holds Try.pinned (OpenSpec.ofChange schemaBackWrong)

/-- 'colonnadelaw15.SchemaOne': WHATEVER THE INPUT: true; the input reads as it did. -/
def schemaOneSpec : ChangeSpec := { name := "schemaOne", fn := fun _ => fun
  | [d] => { results := [.lit (.bool true)], args := [d] }
  | _ => none }
def schemaOneRow : OpenClaim := { program := "ytdiabhfphonciaa", sum := "6eb74a396fb4d23d5dff25ccbd6efd85fd9158d1d802df243472ae7d1d7b24fe", func := "colonnade/colonnadelaw15.SchemaOne", spec := "schemaOne", unfollowed := true, recurses := true, apart := false }
def SchemaOneSaid : Prop := schemaOneRow.holds Try.pinned (OpenSpec.ofChange schemaOneSpec)

/-- ITS FALSE NEIGHBOUR: 'it returns false'. Refute it at one input. -/
def schemaOneWrong : ChangeSpec := { name := "schemaOne", fn := fun _ => fun
  | [d] => { results := [.lit (.bool false)], args := [d] }
  | _ => none }
def SchemaOneWrongFalsely : Prop := schemaOneRow.holds Try.pinned (OpenSpec.ofChange schemaOneWrong)

/-- 'colonnadelaw15.SchemaOwn': WHATEVER THE INPUT: true; the input reads as it did. -/
def schemaOwnSpec : ChangeSpec := { name := "schemaOwn", fn := fun _ => fun
  | [d1, d2] => { results := [.lit (.bool true)], args := [d1, d2] }
  | _ => none }
def schemaOwnRow : OpenClaim := { program := "ytdiabhfphonciaa", sum := "6eb74a396fb4d23d5dff25ccbd6efd85fd9158d1d802df243472ae7d1d7b24fe", func := "colonnade/colonnadelaw15.SchemaOwn", spec := "schemaOwn", unfollowed := true, recurses := true, apart := false }
def SchemaOwnSaid : Prop := schemaOwnRow.holds Try.pinned (OpenSpec.ofChange schemaOwnSpec)

/-- ITS FALSE NEIGHBOUR: 'it returns false'. Refute it at one input. -/
def schemaOwnWrong : ChangeSpec := { name := "schemaOwn", fn := fun _ => fun
  | [d1, d2] => { results := [.lit (.bool false)], args := [d1, d2] }
  | _ => none }
def SchemaOwnWrongFalsely : Prop := schemaOwnRow.holds Try.pinned (OpenSpec.ofChange schemaOwnWrong)

/- THE SECOND FORM. 'bulk': how many values and letters a reading holds, each counted each time it is reached (what is shared counts as often as it is met; a slice's spare places count too). A statement '..UptoSaid' is the law's where the arguments, and the package variables that the reading takes, are together of bulk at most 1048576: NARROWER than '..Said'. Prove '..Said' where nothing that the law and all that it calls make is longer than what came in: it says more and counts as full. Else prove '..UptoSaid'. A law counts once. -/
mutual
def uptoBulk {H : Type} : DataW H → Nat
  | .lit (.string bytes) => bytes.length + 1
  | .lit _ => 1
  | .nil => 1
  | .ptr d => uptoBulk d + 1
  | .slice elems spare => uptoBulkAll elems + uptoBulkAll spare + 1
  | .agg parts => uptoBulkAll parts + 1
  | .iface _ d => uptoBulk d + 1
  | .map entries => uptoBulkEntries entries + 1
  | .held _ => 1
def uptoBulkAll {H : Type} : List (DataW H) → Nat
  | [] => 0
  | d :: r => uptoBulk d + uptoBulkAll r
def uptoBulkEntries {H : Type} : List (Lit × DataW H) → Nat
  | [] => 0
  | x :: r => uptoBulkEntry x + uptoBulkEntries r
def uptoBulkEntry {H : Type} : Lit × DataW H → Nat
  | (.string bytes, d) => bytes.length + uptoBulk d + 1
  | (_, d) => uptoBulk d + 1
 end
def uptoSmall : (H : Type) → List (DataW H) → Bool := fun _ ds => decide (uptoBulkAll ds ≤ 1048576)
def OpenSpec.upto (s : _root_.Go.ChangeSpec) : _root_.Go.OpenSpec := { _root_.Go.OpenSpec.ofChange s with cond := some uptoSmall }

/-- 'colonnadelaw15.SchemaLimits', WHERE WHAT IT READS IS OF BULK AT MOST 1048576: true; the input reads as it did. -/
def schemaLimitsUptoRow : OpenClaim := { program := "ytdiabhfphonciaa", sum := "6eb74a396fb4d23d5dff25ccbd6efd85fd9158d1d802df243472ae7d1d7b24fe", func := "colonnade/colonnadelaw15.SchemaLimits", spec := "schemaLimits", unfollowed := true, recurses := true, apart := false, narrowed := true }
def SchemaLimitsUptoSaid : Prop := schemaLimitsUptoRow.holds Try.pinned (OpenSpec.upto schemaLimitsSpec)

/-- 'colonnadelaw15.SchemaChecks', WHERE WHAT IT READS IS OF BULK AT MOST 1048576: true; the input reads as it did. -/
def schemaChecksUptoRow : OpenClaim := { program := "ytdiabhfphonciaa", sum := "6eb74a396fb4d23d5dff25ccbd6efd85fd9158d1d802df243472ae7d1d7b24fe", func := "colonnade/colonnadelaw15.SchemaChecks", spec := "schemaChecks", unfollowed := true, recurses := true, apart := false, narrowed := true }
def SchemaChecksUptoSaid : Prop := schemaChecksUptoRow.holds Try.pinned (OpenSpec.upto schemaChecksSpec)

/-- 'colonnadelaw15.SchemaFinds', WHERE WHAT IT READS IS OF BULK AT MOST 1048576: true; the input reads as it did. -/
def schemaFindsUptoRow : OpenClaim := { program := "ytdiabhfphonciaa", sum := "6eb74a396fb4d23d5dff25ccbd6efd85fd9158d1d802df243472ae7d1d7b24fe", func := "colonnade/colonnadelaw15.SchemaFinds", spec := "schemaFinds", unfollowed := true, recurses := true, apart := false, narrowed := true }
def SchemaFindsUptoSaid : Prop := schemaFindsUptoRow.holds Try.pinned (OpenSpec.upto schemaFindsSpec)

/-- 'colonnadelaw15.SchemaPuts', WHERE WHAT IT READS IS OF BULK AT MOST 1048576: true; the input reads as it did. -/
def schemaPutsUptoRow : OpenClaim := { program := "ytdiabhfphonciaa", sum := "6eb74a396fb4d23d5dff25ccbd6efd85fd9158d1d802df243472ae7d1d7b24fe", func := "colonnade/colonnadelaw15.SchemaPuts", spec := "schemaPuts", unfollowed := true, recurses := true, apart := false, narrowed := true }
def SchemaPutsUptoSaid : Prop := schemaPutsUptoRow.holds Try.pinned (OpenSpec.upto schemaPutsSpec)

/-- 'colonnadelaw15.SchemaTakes', WHERE WHAT IT READS IS OF BULK AT MOST 1048576: true; the input reads as it did. -/
def schemaTakesUptoRow : OpenClaim := { program := "ytdiabhfphonciaa", sum := "6eb74a396fb4d23d5dff25ccbd6efd85fd9158d1d802df243472ae7d1d7b24fe", func := "colonnade/colonnadelaw15.SchemaTakes", spec := "schemaTakes", unfollowed := true, recurses := true, apart := false, narrowed := true }
def SchemaTakesUptoSaid : Prop := schemaTakesUptoRow.holds Try.pinned (OpenSpec.upto schemaTakesSpec)

/-- 'colonnadelaw15.SchemaRules', WHERE WHAT IT READS IS OF BULK AT MOST 1048576: true; the input reads as it did. -/
def schemaRulesUptoRow : OpenClaim := { program := "ytdiabhfphonciaa", sum := "6eb74a396fb4d23d5dff25ccbd6efd85fd9158d1d802df243472ae7d1d7b24fe", func := "colonnade/colonnadelaw15.SchemaRules", spec := "schemaRules", unfollowed := true, recurses := true, apart := false, narrowed := true }
def SchemaRulesUptoSaid : Prop := schemaRulesUptoRow.holds Try.pinned (OpenSpec.upto schemaRulesSpec)

/-- 'colonnadelaw15.SchemaBack', WHERE WHAT IT READS IS OF BULK AT MOST 1048576: true; the input reads as it did. -/
def schemaBackUptoRow : OpenClaim := { program := "ytdiabhfphonciaa", sum := "6eb74a396fb4d23d5dff25ccbd6efd85fd9158d1d802df243472ae7d1d7b24fe", func := "colonnade/colonnadelaw15.SchemaBack", spec := "schemaBack", unfollowed := true, recurses := true, apart := false, narrowed := true }
def SchemaBackUptoSaid : Prop := schemaBackUptoRow.holds Try.pinned (OpenSpec.upto schemaBackSpec)

/-- 'colonnadelaw15.SchemaOne', WHERE WHAT IT READS IS OF BULK AT MOST 1048576: true; the input reads as it did. -/
def schemaOneUptoRow : OpenClaim := { program := "ytdiabhfphonciaa", sum := "6eb74a396fb4d23d5dff25ccbd6efd85fd9158d1d802df243472ae7d1d7b24fe", func := "colonnade/colonnadelaw15.SchemaOne", spec := "schemaOne", unfollowed := true, recurses := true, apart := false, narrowed := true }
def SchemaOneUptoSaid : Prop := schemaOneUptoRow.holds Try.pinned (OpenSpec.upto schemaOneSpec)

/-- 'colonnadelaw15.SchemaOwn', WHERE WHAT IT READS IS OF BULK AT MOST 1048576: true; the input reads as it did. -/
def schemaOwnUptoRow : OpenClaim := { program := "ytdiabhfphonciaa", sum := "6eb74a396fb4d23d5dff25ccbd6efd85fd9158d1d802df243472ae7d1d7b24fe", func := "colonnade/colonnadelaw15.SchemaOwn", spec := "schemaOwn", unfollowed := true, recurses := true, apart := false, narrowed := true }
def SchemaOwnUptoSaid : Prop := schemaOwnUptoRow.holds Try.pinned (OpenSpec.upto schemaOwnSpec)

end Rows
end Go.Proofs.Ytdiabhfphonciaa
