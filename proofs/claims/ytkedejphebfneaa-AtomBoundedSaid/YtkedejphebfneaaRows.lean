/-
  NARROWER THAN 'FOR EVERY INPUT', by the rows' own cells (each row's printed sentence says how): AtomChecks: loops · AtomTests: loops · AtomNots: loops · AtomBounds: loops · AtomBounded: loops · AtomOwn: loops.
  DERIVED. THE GIVEN ROWS OF THIS SEAT. 9 by the template 'for every input the law returns true; each argument reads behind the call as it read before'; 0 by the template 'total and deterministic' (their statements: YtkedejphebfneaaTotals.lean).
  GIVEN WITH THE SEED: the statements are not yours to turn. If you find one false, say at which input.
  Laid BY PROGRAM, IN A SANDBOX (cutbox-rows.mjs): the forced cells as the released guide's own fill.sh prints them over the translation 8826de048ec921a2… (all of the seat's roots in one cut). By AI agents, Wed Nov 11 2026. No macro, syntax, notation, axiom, sorry.
-/
import Derived.Test.YtkedejphebfneaaChecked
import GoSem.Claim
import GoSem.ClaimJoined
import GoSem.ClaimMapViews
import Derived.JoinedTies
import Derived.KernelRfl
namespace Go.Proofs.Ytkedejphebfneaa
/- THE CELL 'sum', in the pinned program and in every row, IS THE sha256 OF THE DUMP (.gsa) THAT YtkedejphebfneaaProg.lean LOADS. Nothing in Lean hashes anything: it is a label: what it is worth is what the hold of that sum in a sandbox is worth. -/
noncomputable def Try.pinned : Pinned := { name := "ytkedejphebfneaa", sum := "8826de048ec921a2300a55a08c638c2cf95b427fb091f024346e5fe82857c03a", checked := Try.checked }
namespace Rows
def none {H : Type} : Left H := { results := [], args := [] }

/-- 'colonnadelaw18.AtomNumbers': WHATEVER THE INPUT: true; the input reads as it did. -/
def atomNumbersSpec : ChangeSpec := { name := "atomNumbers", fn := fun _ => fun
  | [] => { results := [.lit (.bool true)], args := [] }
  | _ => none }
def atomNumbersRow : OpenClaim := { program := "ytkedejphebfneaa", sum := "8826de048ec921a2300a55a08c638c2cf95b427fb091f024346e5fe82857c03a", func := "colonnade/colonnadelaw18.AtomNumbers", spec := "atomNumbers", inPlace := ["math.Float64bits", "math.Float64frombits", "internal/bytealg.abigen_runtime_cmpstring"], unfollowed := true, recurses := true, apart := false }
def AtomNumbersSaid : Prop := atomNumbersRow.holds Try.pinned (OpenSpec.ofChange atomNumbersSpec)

/-- ITS FALSE NEIGHBOUR: 'it returns false'. Refute it at one input. -/
def atomNumbersWrong : ChangeSpec := { name := "atomNumbers", fn := fun _ => fun
  | [] => { results := [.lit (.bool false)], args := [] }
  | _ => none }
def AtomNumbersWrongFalsely : Prop := atomNumbersRow.holds Try.pinned (OpenSpec.ofChange atomNumbersWrong)

/-- 'colonnadelaw18.AtomChecks': WHATEVER THE INPUT: true; the input reads as it did. -/
def atomChecksSpec : ChangeSpec := { name := "atomChecks", fn := fun _ => fun
  | [d1, d2] => { results := [.lit (.bool true)], args := [d1, d2] }
  | _ => none }
def atomChecksRow : OpenClaim := { program := "ytkedejphebfneaa", sum := "8826de048ec921a2300a55a08c638c2cf95b427fb091f024346e5fe82857c03a", func := "colonnade/colonnadelaw18.AtomChecks", spec := "atomChecks", inPlace := ["math.Float64bits", "math.Float64frombits", "internal/bytealg.abigen_runtime_cmpstring"], unfollowed := true, recurses := true, loops := true, apart := false }
def AtomChecksSaid : Prop := atomChecksRow.holds Try.pinned (OpenSpec.ofChange atomChecksSpec)

/-- ITS FALSE NEIGHBOUR: 'it returns false'. Refute it at one input. -/
def atomChecksWrong : ChangeSpec := { name := "atomChecks", fn := fun _ => fun
  | [d1, d2] => { results := [.lit (.bool false)], args := [d1, d2] }
  | _ => none }
def AtomChecksWrongFalsely : Prop := atomChecksRow.holds Try.pinned (OpenSpec.ofChange atomChecksWrong)

/-- 'colonnadelaw18.AtomTests': WHATEVER THE INPUT: true; the input reads as it did. -/
def atomTestsSpec : ChangeSpec := { name := "atomTests", fn := fun _ => fun
  | [d1, d2] => { results := [.lit (.bool true)], args := [d1, d2] }
  | _ => none }
def atomTestsRow : OpenClaim := { program := "ytkedejphebfneaa", sum := "8826de048ec921a2300a55a08c638c2cf95b427fb091f024346e5fe82857c03a", func := "colonnade/colonnadelaw18.AtomTests", spec := "atomTests", inPlace := ["math.Float64bits", "math.Float64frombits", "internal/bytealg.abigen_runtime_cmpstring"], unfollowed := true, recurses := true, loops := true, apart := false }
def AtomTestsSaid : Prop := atomTestsRow.holds Try.pinned (OpenSpec.ofChange atomTestsSpec)

/-- ITS FALSE NEIGHBOUR: 'it returns false'. Refute it at one input. -/
def atomTestsWrong : ChangeSpec := { name := "atomTests", fn := fun _ => fun
  | [d1, d2] => { results := [.lit (.bool false)], args := [d1, d2] }
  | _ => none }
def AtomTestsWrongFalsely : Prop := atomTestsRow.holds Try.pinned (OpenSpec.ofChange atomTestsWrong)

/-- 'colonnadelaw18.AtomNots': WHATEVER THE INPUT: true; the input reads as it did. -/
def atomNotsSpec : ChangeSpec := { name := "atomNots", fn := fun _ => fun
  | [d] => { results := [.lit (.bool true)], args := [d] }
  | _ => none }
def atomNotsRow : OpenClaim := { program := "ytkedejphebfneaa", sum := "8826de048ec921a2300a55a08c638c2cf95b427fb091f024346e5fe82857c03a", func := "colonnade/colonnadelaw18.AtomNots", spec := "atomNots", inPlace := ["math.Float64bits", "math.Float64frombits", "internal/bytealg.abigen_runtime_cmpstring"], unfollowed := true, recurses := true, loops := true, apart := false }
def AtomNotsSaid : Prop := atomNotsRow.holds Try.pinned (OpenSpec.ofChange atomNotsSpec)

/-- ITS FALSE NEIGHBOUR: 'it returns false'. Refute it at one input. -/
def atomNotsWrong : ChangeSpec := { name := "atomNots", fn := fun _ => fun
  | [d] => { results := [.lit (.bool false)], args := [d] }
  | _ => none }
def AtomNotsWrongFalsely : Prop := atomNotsRow.holds Try.pinned (OpenSpec.ofChange atomNotsWrong)

/-- 'colonnadelaw18.AtomBounds': WHATEVER THE INPUT: true; the input reads as it did. -/
def atomBoundsSpec : ChangeSpec := { name := "atomBounds", fn := fun _ => fun
  | [d] => { results := [.lit (.bool true)], args := [d] }
  | _ => none }
def atomBoundsRow : OpenClaim := { program := "ytkedejphebfneaa", sum := "8826de048ec921a2300a55a08c638c2cf95b427fb091f024346e5fe82857c03a", func := "colonnade/colonnadelaw18.AtomBounds", spec := "atomBounds", inPlace := ["math.Float64bits", "math.Float64frombits", "internal/bytealg.abigen_runtime_cmpstring"], unfollowed := true, recurses := true, loops := true, apart := false }
def AtomBoundsSaid : Prop := atomBoundsRow.holds Try.pinned (OpenSpec.ofChange atomBoundsSpec)

/-- ITS FALSE NEIGHBOUR: 'it returns false'. Refute it at one input. -/
def atomBoundsWrong : ChangeSpec := { name := "atomBounds", fn := fun _ => fun
  | [d] => { results := [.lit (.bool false)], args := [d] }
  | _ => none }
def AtomBoundsWrongFalsely : Prop := atomBoundsRow.holds Try.pinned (OpenSpec.ofChange atomBoundsWrong)

/-- 'colonnadelaw18.AtomBegins': WHATEVER THE INPUT: true; the input reads as it did. -/
def atomBeginsSpec : ChangeSpec := { name := "atomBegins", fn := fun _ => fun
  | [d1, d2, d3] => { results := [.lit (.bool true)], args := [d1, d2, d3] }
  | _ => none }
def atomBeginsRow : OpenClaim := { program := "ytkedejphebfneaa", sum := "8826de048ec921a2300a55a08c638c2cf95b427fb091f024346e5fe82857c03a", func := "colonnade/colonnadelaw18.AtomBegins", spec := "atomBegins", inPlace := ["math.Float64bits", "math.Float64frombits", "internal/bytealg.abigen_runtime_cmpstring"], unfollowed := true, recurses := true, apart := false }
def AtomBeginsSaid : Prop := atomBeginsRow.holds Try.pinned (OpenSpec.ofChange atomBeginsSpec)

/-- ITS FALSE NEIGHBOUR: 'it returns false'. Refute it at one input. -/
def atomBeginsWrong : ChangeSpec := { name := "atomBegins", fn := fun _ => fun
  | [d1, d2, d3] => { results := [.lit (.bool false)], args := [d1, d2, d3] }
  | _ => none }
def AtomBeginsWrongFalsely : Prop := atomBeginsRow.holds Try.pinned (OpenSpec.ofChange atomBeginsWrong)

/-- 'colonnadelaw18.AtomBounded': WHATEVER THE INPUT: true; the input reads as it did. -/
def atomBoundedSpec : ChangeSpec := { name := "atomBounded", fn := fun _ => fun
  | [d1, d2] => { results := [.lit (.bool true)], args := [d1, d2] }
  | _ => none }
def atomBoundedRow : OpenClaim := { program := "ytkedejphebfneaa", sum := "8826de048ec921a2300a55a08c638c2cf95b427fb091f024346e5fe82857c03a", func := "colonnade/colonnadelaw18.AtomBounded", spec := "atomBounded", inPlace := ["math.Float64bits", "math.Float64frombits", "internal/bytealg.abigen_runtime_cmpstring"], unfollowed := true, recurses := true, loops := true, apart := false }
def AtomBoundedSaid : Prop := atomBoundedRow.holds Try.pinned (OpenSpec.ofChange atomBoundedSpec)

/-- ITS FALSE NEIGHBOUR: 'it returns false'. Refute it at one input. -/
def atomBoundedWrong : ChangeSpec := { name := "atomBounded", fn := fun _ => fun
  | [d1, d2] => { results := [.lit (.bool false)], args := [d1, d2] }
  | _ => none }
def AtomBoundedWrongFalsely : Prop := atomBoundedRow.holds Try.pinned (OpenSpec.ofChange atomBoundedWrong)

/-- 'colonnadelaw18.AtomOwn': WHATEVER THE INPUT: true; the input reads as it did. -/
def atomOwnSpec : ChangeSpec := { name := "atomOwn", fn := fun _ => fun
  | [d1, d2, d3] => { results := [.lit (.bool true)], args := [d1, d2, d3] }
  | _ => none }
def atomOwnRow : OpenClaim := { program := "ytkedejphebfneaa", sum := "8826de048ec921a2300a55a08c638c2cf95b427fb091f024346e5fe82857c03a", func := "colonnade/colonnadelaw18.AtomOwn", spec := "atomOwn", inPlace := ["math.Float64bits", "math.Float64frombits", "internal/bytealg.abigen_runtime_cmpstring"], unfollowed := true, recurses := true, loops := true, apart := false }
def AtomOwnSaid : Prop := atomOwnRow.holds Try.pinned (OpenSpec.ofChange atomOwnSpec)

/-- ITS FALSE NEIGHBOUR: 'it returns false'. Refute it at one input. -/
def atomOwnWrong : ChangeSpec := { name := "atomOwn", fn := fun _ => fun
  | [d1, d2, d3] => { results := [.lit (.bool false)], args := [d1, d2, d3] }
  | _ => none }
def AtomOwnWrongFalsely : Prop := atomOwnRow.holds Try.pinned (OpenSpec.ofChange atomOwnWrong)

/-- 'colonnadelaw18.AtomKleene': WHATEVER THE INPUT: true; the input reads as it did. -/
def atomKleeneSpec : ChangeSpec := { name := "atomKleene", fn := fun _ => fun
  | [d1, d2, d3, d4] => { results := [.lit (.bool true)], args := [d1, d2, d3, d4] }
  | _ => none }
def atomKleeneRow : OpenClaim := { program := "ytkedejphebfneaa", sum := "8826de048ec921a2300a55a08c638c2cf95b427fb091f024346e5fe82857c03a", func := "colonnade/colonnadelaw18.AtomKleene", spec := "atomKleene", inPlace := ["math.Float64bits", "math.Float64frombits", "internal/bytealg.abigen_runtime_cmpstring"], unfollowed := true, recurses := true, apart := false }
def AtomKleeneSaid : Prop := atomKleeneRow.holds Try.pinned (OpenSpec.ofChange atomKleeneSpec)

/-- ITS FALSE NEIGHBOUR: 'it returns false'. Refute it at one input. -/
def atomKleeneWrong : ChangeSpec := { name := "atomKleene", fn := fun _ => fun
  | [d1, d2, d3, d4] => { results := [.lit (.bool false)], args := [d1, d2, d3, d4] }
  | _ => none }
def AtomKleeneWrongFalsely : Prop := atomKleeneRow.holds Try.pinned (OpenSpec.ofChange atomKleeneWrong)

/- THE SECOND FORM. 'bulk': how many values and letters a reading holds, each counted each time it is reached (what is shared counts as often as it is met; a slice's spare places count too). A statement '..UptoSaid' is the law's where the arguments, and the package variables that the reading takes, are together of bulk at most 1048576: NARROWER than '..Said'. Prove '..Said' where nothing that the law and all that it calls make is longer than what came in: it says more and counts as full. Else prove '..UptoSaid'. A law counts once. -/
mutual
def uptoBulk {H : Type} : DataW H → Nat
  | .lit (.string bytes) => bytes.length + 1
  | .lit _ => 1
  | .nil => 1
  | .ptr d => uptoBulk d + 1
  | .slice elems spare => uptoBulkAll elems + uptoBulkAll spare + 1
  | .agg parts => uptoBulkAll parts + 1
  | .iface _ d => uptoBulk d + 1
  | .map entries => uptoBulkEntries entries + 1
  | .held _ => 1
def uptoBulkAll {H : Type} : List (DataW H) → Nat
  | [] => 0
  | d :: r => uptoBulk d + uptoBulkAll r
def uptoBulkEntries {H : Type} : List (Lit × DataW H) → Nat
  | [] => 0
  | x :: r => uptoBulkEntry x + uptoBulkEntries r
def uptoBulkEntry {H : Type} : Lit × DataW H → Nat
  | (.string bytes, d) => bytes.length + uptoBulk d + 1
  | (_, d) => uptoBulk d + 1
 end
def uptoSmall : (H : Type) → List (DataW H) → Bool := fun _ ds => decide (uptoBulkAll ds ≤ 1048576)
def OpenSpec.upto (s : _root_.Go.ChangeSpec) : _root_.Go.OpenSpec := { _root_.Go.OpenSpec.ofChange s with cond := some uptoSmall }

/-- 'colonnadelaw18.AtomNumbers', WHERE WHAT IT READS IS OF BULK AT MOST 1048576: true; the input reads as it did. -/
def atomNumbersUptoRow : OpenClaim := { program := "ytkedejphebfneaa", sum := "8826de048ec921a2300a55a08c638c2cf95b427fb091f024346e5fe82857c03a", func := "colonnade/colonnadelaw18.AtomNumbers", spec := "atomNumbers", inPlace := ["math.Float64bits", "math.Float64frombits", "internal/bytealg.abigen_runtime_cmpstring"], unfollowed := true, recurses := true, apart := false, narrowed := true }
def AtomNumbersUptoSaid : Prop := atomNumbersUptoRow.holds Try.pinned (OpenSpec.upto atomNumbersSpec)

/-- 'colonnadelaw18.AtomChecks', WHERE WHAT IT READS IS OF BULK AT MOST 1048576: true; the input reads as it did. -/
def atomChecksUptoRow : OpenClaim := { program := "ytkedejphebfneaa", sum := "8826de048ec921a2300a55a08c638c2cf95b427fb091f024346e5fe82857c03a", func := "colonnade/colonnadelaw18.AtomChecks", spec := "atomChecks", inPlace := ["math.Float64bits", "math.Float64frombits", "internal/bytealg.abigen_runtime_cmpstring"], unfollowed := true, recurses := true, loops := true, apart := false, narrowed := true }
def AtomChecksUptoSaid : Prop := atomChecksUptoRow.holds Try.pinned (OpenSpec.upto atomChecksSpec)

/-- 'colonnadelaw18.AtomTests', WHERE WHAT IT READS IS OF BULK AT MOST 1048576: true; the input reads as it did. -/
def atomTestsUptoRow : OpenClaim := { program := "ytkedejphebfneaa", sum := "8826de048ec921a2300a55a08c638c2cf95b427fb091f024346e5fe82857c03a", func := "colonnade/colonnadelaw18.AtomTests", spec := "atomTests", inPlace := ["math.Float64bits", "math.Float64frombits", "internal/bytealg.abigen_runtime_cmpstring"], unfollowed := true, recurses := true, loops := true, apart := false, narrowed := true }
def AtomTestsUptoSaid : Prop := atomTestsUptoRow.holds Try.pinned (OpenSpec.upto atomTestsSpec)

/-- 'colonnadelaw18.AtomNots', WHERE WHAT IT READS IS OF BULK AT MOST 1048576: true; the input reads as it did. -/
def atomNotsUptoRow : OpenClaim := { program := "ytkedejphebfneaa", sum := "8826de048ec921a2300a55a08c638c2cf95b427fb091f024346e5fe82857c03a", func := "colonnade/colonnadelaw18.AtomNots", spec := "atomNots", inPlace := ["math.Float64bits", "math.Float64frombits", "internal/bytealg.abigen_runtime_cmpstring"], unfollowed := true, recurses := true, loops := true, apart := false, narrowed := true }
def AtomNotsUptoSaid : Prop := atomNotsUptoRow.holds Try.pinned (OpenSpec.upto atomNotsSpec)

/-- 'colonnadelaw18.AtomBounds', WHERE WHAT IT READS IS OF BULK AT MOST 1048576: true; the input reads as it did. -/
def atomBoundsUptoRow : OpenClaim := { program := "ytkedejphebfneaa", sum := "8826de048ec921a2300a55a08c638c2cf95b427fb091f024346e5fe82857c03a", func := "colonnade/colonnadelaw18.AtomBounds", spec := "atomBounds", inPlace := ["math.Float64bits", "math.Float64frombits", "internal/bytealg.abigen_runtime_cmpstring"], unfollowed := true, recurses := true, loops := true, apart := false, narrowed := true }
def AtomBoundsUptoSaid : Prop := atomBoundsUptoRow.holds Try.pinned (OpenSpec.upto atomBoundsSpec)

/-- 'colonnadelaw18.AtomBegins', WHERE WHAT IT READS IS OF BULK AT MOST 1048576: true; the input reads as it did. -/
def atomBeginsUptoRow : OpenClaim := { program := "ytkedejphebfneaa", sum := "8826de048ec921a2300a55a08c638c2cf95b427fb091f024346e5fe82857c03a", func := "colonnade/colonnadelaw18.AtomBegins", spec := "atomBegins", inPlace := ["math.Float64bits", "math.Float64frombits", "internal/bytealg.abigen_runtime_cmpstring"], unfollowed := true, recurses := true, apart := false, narrowed := true }
def AtomBeginsUptoSaid : Prop := atomBeginsUptoRow.holds Try.pinned (OpenSpec.upto atomBeginsSpec)

/-- 'colonnadelaw18.AtomBounded', WHERE WHAT IT READS IS OF BULK AT MOST 1048576: true; the input reads as it did. -/
def atomBoundedUptoRow : OpenClaim := { program := "ytkedejphebfneaa", sum := "8826de048ec921a2300a55a08c638c2cf95b427fb091f024346e5fe82857c03a", func := "colonnade/colonnadelaw18.AtomBounded", spec := "atomBounded", inPlace := ["math.Float64bits", "math.Float64frombits", "internal/bytealg.abigen_runtime_cmpstring"], unfollowed := true, recurses := true, loops := true, apart := false, narrowed := true }
def AtomBoundedUptoSaid : Prop := atomBoundedUptoRow.holds Try.pinned (OpenSpec.upto atomBoundedSpec)

/-- 'colonnadelaw18.AtomOwn', WHERE WHAT IT READS IS OF BULK AT MOST 1048576: true; the input reads as it did. -/
def atomOwnUptoRow : OpenClaim := { program := "ytkedejphebfneaa", sum := "8826de048ec921a2300a55a08c638c2cf95b427fb091f024346e5fe82857c03a", func := "colonnade/colonnadelaw18.AtomOwn", spec := "atomOwn", inPlace := ["math.Float64bits", "math.Float64frombits", "internal/bytealg.abigen_runtime_cmpstring"], unfollowed := true, recurses := true, loops := true, apart := false, narrowed := true }
def AtomOwnUptoSaid : Prop := atomOwnUptoRow.holds Try.pinned (OpenSpec.upto atomOwnSpec)

/-- 'colonnadelaw18.AtomKleene', WHERE WHAT IT READS IS OF BULK AT MOST 1048576: true; the input reads as it did. -/
def atomKleeneUptoRow : OpenClaim := { program := "ytkedejphebfneaa", sum := "8826de048ec921a2300a55a08c638c2cf95b427fb091f024346e5fe82857c03a", func := "colonnade/colonnadelaw18.AtomKleene", spec := "atomKleene", inPlace := ["math.Float64bits", "math.Float64frombits", "internal/bytealg.abigen_runtime_cmpstring"], unfollowed := true, recurses := true, apart := false, narrowed := true }
def AtomKleeneUptoSaid : Prop := atomKleeneUptoRow.holds Try.pinned (OpenSpec.upto atomKleeneSpec)

end Rows
end Go.Proofs.Ytkedejphebfneaa
