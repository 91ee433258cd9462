/-
  No cell of these rows narrows 'for every input' (looked for: loops, veiled, ifaces, maps, wideKeys, modest, calm, conditions, laid).
  DERIVED. THE GIVEN ROWS OF THIS SEAT. 9 by the template 'for every input the law returns true; each argument reads behind the call as it read before'; 0 by the template 'total and deterministic' (their statements: YthiidgmemoineaaTotals.lean).
  GIVEN WITH THE SEED: the statements are not yours to turn. If you find one false, say at which input.
  Laid BY PROGRAM, IN A SANDBOX (cutbox-rows.mjs): the forced cells as the released guide's own fill.sh prints them over the translation 1e0970ba581a9b07… (all of the seat's roots in one cut). By AI agents, Wed Nov 11 2026. No macro, syntax, notation, axiom, sorry.
-/
import Derived.Test.YthiidgmemoineaaChecked
import GoSem.Claim
import GoSem.ClaimJoined
import GoSem.ClaimMapViews
import Derived.JoinedTies
import Derived.KernelRfl
namespace Go.Proofs.Ythiidgmemoineaa
/- THE CELL 'sum', in the pinned program and in every row, IS THE sha256 OF THE DUMP (.gsa) THAT YthiidgmemoineaaProg.lean LOADS. Nothing in Lean hashes anything: it is a label: what it is worth is what the hold of that sum in a sandbox is worth. -/
noncomputable def Try.pinned : Pinned := { name := "ythiidgmemoineaa", sum := "1e0970ba581a9b07a286966b9bfd274bcdb3c9cc6ab6bb0fa5a10901c9661dfb", checked := Try.checked }
namespace Rows
def none {H : Type} : Left H := { results := [], args := [] }

/-- 'colonnadelaw14.ZoneOfs': WHATEVER THE INPUT: true; the input reads as it did. -/
def zoneOfsSpec : ChangeSpec := { name := "zoneOfs", fn := fun _ => fun
  | [d1, d2, d3] => { results := [.lit (.bool true)], args := [d1, d2, d3] }
  | _ => none }
def zoneOfsRow : OpenClaim := { program := "ythiidgmemoineaa", sum := "1e0970ba581a9b07a286966b9bfd274bcdb3c9cc6ab6bb0fa5a10901c9661dfb", func := "colonnade/colonnadelaw14.ZoneOfs", spec := "zoneOfs", inPlace := ["math.Float64bits", "math.Float64frombits", "math.archTrunc", "internal/bytealg.abigen_runtime_cmpstring"], unfollowed := true, recurses := true, apart := false }
def ZoneOfsSaid : Prop := zoneOfsRow.holds Try.pinned (OpenSpec.ofChange zoneOfsSpec)

/-- ITS FALSE NEIGHBOUR: 'it returns false'. Refute it at one input. -/
def zoneOfsWrong : ChangeSpec := { name := "zoneOfs", fn := fun _ => fun
  | [d1, d2, d3] => { results := [.lit (.bool false)], args := [d1, d2, d3] }
  | _ => none }
def ZoneOfsWrongFalsely : Prop := zoneOfsRow.holds Try.pinned (OpenSpec.ofChange zoneOfsWrong)

/-- 'colonnadelaw14.ZoneMays': WHATEVER THE INPUT: true; the input reads as it did. -/
def zoneMaysSpec : ChangeSpec := { name := "zoneMays", fn := fun _ => fun
  | [d1, d2, d3] => { results := [.lit (.bool true)], args := [d1, d2, d3] }
  | _ => none }
def zoneMaysRow : OpenClaim := { program := "ythiidgmemoineaa", sum := "1e0970ba581a9b07a286966b9bfd274bcdb3c9cc6ab6bb0fa5a10901c9661dfb", func := "colonnade/colonnadelaw14.ZoneMays", spec := "zoneMays", inPlace := ["math.Float64bits", "math.Float64frombits", "math.archTrunc", "internal/bytealg.abigen_runtime_cmpstring"], recurses := true, apart := false }
def ZoneMaysSaid : Prop := zoneMaysRow.holds Try.pinned (OpenSpec.ofChange zoneMaysSpec)

/-- ITS FALSE NEIGHBOUR: 'it returns false'. Refute it at one input. -/
def zoneMaysWrong : ChangeSpec := { name := "zoneMays", fn := fun _ => fun
  | [d1, d2, d3] => { results := [.lit (.bool false)], args := [d1, d2, d3] }
  | _ => none }
def ZoneMaysWrongFalsely : Prop := zoneMaysRow.holds Try.pinned (OpenSpec.ofChange zoneMaysWrong)

/-- 'colonnadelaw14.ZoneSounds': WHATEVER THE INPUT: true; the input reads as it did. -/
def zoneSoundsSpec : ChangeSpec := { name := "zoneSounds", fn := fun _ => fun
  | [d1, d2, d3] => { results := [.lit (.bool true)], args := [d1, d2, d3] }
  | _ => none }
def zoneSoundsRow : OpenClaim := { program := "ythiidgmemoineaa", sum := "1e0970ba581a9b07a286966b9bfd274bcdb3c9cc6ab6bb0fa5a10901c9661dfb", func := "colonnade/colonnadelaw14.ZoneSounds", spec := "zoneSounds", inPlace := ["math.Float64bits", "math.Float64frombits", "internal/bytealg.abigen_runtime_cmpstring", "math.archTrunc"], recurses := true, apart := false }
def ZoneSoundsSaid : Prop := zoneSoundsRow.holds Try.pinned (OpenSpec.ofChange zoneSoundsSpec)

/-- ITS FALSE NEIGHBOUR: 'it returns false'. Refute it at one input. -/
def zoneSoundsWrong : ChangeSpec := { name := "zoneSounds", fn := fun _ => fun
  | [d1, d2, d3] => { results := [.lit (.bool false)], args := [d1, d2, d3] }
  | _ => none }
def ZoneSoundsWrongFalsely : Prop := zoneSoundsRow.holds Try.pinned (OpenSpec.ofChange zoneSoundsWrong)

/-- 'colonnadelaw14.ZoneTakes': WHATEVER THE INPUT: true; the input reads as it did. -/
def zoneTakesSpec : ChangeSpec := { name := "zoneTakes", fn := fun _ => fun
  | [d1, d2, d3] => { results := [.lit (.bool true)], args := [d1, d2, d3] }
  | _ => none }
def zoneTakesRow : OpenClaim := { program := "ythiidgmemoineaa", sum := "1e0970ba581a9b07a286966b9bfd274bcdb3c9cc6ab6bb0fa5a10901c9661dfb", func := "colonnade/colonnadelaw14.ZoneTakes", spec := "zoneTakes", inPlace := ["math.Float64bits", "math.Float64frombits", "math.archTrunc", "internal/bytealg.abigen_runtime_cmpstring"], unfollowed := true, recurses := true, apart := false }
def ZoneTakesSaid : Prop := zoneTakesRow.holds Try.pinned (OpenSpec.ofChange zoneTakesSpec)

/-- ITS FALSE NEIGHBOUR: 'it returns false'. Refute it at one input. -/
def zoneTakesWrong : ChangeSpec := { name := "zoneTakes", fn := fun _ => fun
  | [d1, d2, d3] => { results := [.lit (.bool false)], args := [d1, d2, d3] }
  | _ => none }
def ZoneTakesWrongFalsely : Prop := zoneTakesRow.holds Try.pinned (OpenSpec.ofChange zoneTakesWrong)

/-- 'colonnadelaw14.ZoneForm': WHATEVER THE INPUT: true; the input reads as it did. -/
def zoneFormSpec : ChangeSpec := { name := "zoneForm", fn := fun _ => fun
  | [d1, d2] => { results := [.lit (.bool true)], args := [d1, d2] }
  | _ => none }
def zoneFormRow : OpenClaim := { program := "ythiidgmemoineaa", sum := "1e0970ba581a9b07a286966b9bfd274bcdb3c9cc6ab6bb0fa5a10901c9661dfb", func := "colonnade/colonnadelaw14.ZoneForm", spec := "zoneForm", inPlace := ["math.Float64bits", "math.Float64frombits", "internal/bytealg.abigen_runtime_cmpstring"], unfollowed := true, recurses := true, apart := false }
def ZoneFormSaid : Prop := zoneFormRow.holds Try.pinned (OpenSpec.ofChange zoneFormSpec)

/-- ITS FALSE NEIGHBOUR: 'it returns false'. Refute it at one input. -/
def zoneFormWrong : ChangeSpec := { name := "zoneForm", fn := fun _ => fun
  | [d1, d2] => { results := [.lit (.bool false)], args := [d1, d2] }
  | _ => none }
def ZoneFormWrongFalsely : Prop := zoneFormRow.holds Try.pinned (OpenSpec.ofChange zoneFormWrong)

/-- 'colonnadelaw14.ZoneNarrowest': WHATEVER THE INPUT: true; the input reads as it did. -/
def zoneNarrowestSpec : ChangeSpec := { name := "zoneNarrowest", fn := fun _ => fun
  | [d] => { results := [.lit (.bool true)], args := [d] }
  | _ => none }
def zoneNarrowestRow : OpenClaim := { program := "ythiidgmemoineaa", sum := "1e0970ba581a9b07a286966b9bfd274bcdb3c9cc6ab6bb0fa5a10901c9661dfb", func := "colonnade/colonnadelaw14.ZoneNarrowest", spec := "zoneNarrowest", inPlace := ["math.Float64bits", "math.Float64frombits", "internal/bytealg.abigen_runtime_cmpstring"], unfollowed := true, recurses := true, apart := false }
def ZoneNarrowestSaid : Prop := zoneNarrowestRow.holds Try.pinned (OpenSpec.ofChange zoneNarrowestSpec)

/-- ITS FALSE NEIGHBOUR: 'it returns false'. Refute it at one input. -/
def zoneNarrowestWrong : ChangeSpec := { name := "zoneNarrowest", fn := fun _ => fun
  | [d] => { results := [.lit (.bool false)], args := [d] }
  | _ => none }
def ZoneNarrowestWrongFalsely : Prop := zoneNarrowestRow.holds Try.pinned (OpenSpec.ofChange zoneNarrowestWrong)

/-- 'colonnadelaw14.ZoneOwn': WHATEVER THE INPUT: true; the input reads as it did. -/
def zoneOwnSpec : ChangeSpec := { name := "zoneOwn", fn := fun _ => fun
  | [d] => { results := [.lit (.bool true)], args := [d] }
  | _ => none }
def zoneOwnRow : OpenClaim := { program := "ythiidgmemoineaa", sum := "1e0970ba581a9b07a286966b9bfd274bcdb3c9cc6ab6bb0fa5a10901c9661dfb", func := "colonnade/colonnadelaw14.ZoneOwn", spec := "zoneOwn", inPlace := ["math.Float64bits", "math.Float64frombits", "internal/bytealg.abigen_runtime_cmpstring"], unfollowed := true, recurses := true, apart := false }
def ZoneOwnSaid : Prop := zoneOwnRow.holds Try.pinned (OpenSpec.ofChange zoneOwnSpec)

/-- ITS FALSE NEIGHBOUR: 'it returns false'. Refute it at one input. -/
def zoneOwnWrong : ChangeSpec := { name := "zoneOwn", fn := fun _ => fun
  | [d] => { results := [.lit (.bool false)], args := [d] }
  | _ => none }
def ZoneOwnWrongFalsely : Prop := zoneOwnRow.holds Try.pinned (OpenSpec.ofChange zoneOwnWrong)

/-- 'colonnadelaw14.ZoneJoins': WHATEVER THE INPUT: true; the input reads as it did. -/
def zoneJoinsSpec : ChangeSpec := { name := "zoneJoins", fn := fun _ => fun
  | [d] => { results := [.lit (.bool true)], args := [d] }
  | _ => none }
def zoneJoinsRow : OpenClaim := { program := "ythiidgmemoineaa", sum := "1e0970ba581a9b07a286966b9bfd274bcdb3c9cc6ab6bb0fa5a10901c9661dfb", func := "colonnade/colonnadelaw14.ZoneJoins", spec := "zoneJoins", inPlace := ["math.Float64bits", "math.Float64frombits", "internal/bytealg.abigen_runtime_cmpstring"], unfollowed := true, recurses := true, apart := false }
def ZoneJoinsSaid : Prop := zoneJoinsRow.holds Try.pinned (OpenSpec.ofChange zoneJoinsSpec)

/-- ITS FALSE NEIGHBOUR: 'it returns false'. Refute it at one input. -/
def zoneJoinsWrong : ChangeSpec := { name := "zoneJoins", fn := fun _ => fun
  | [d] => { results := [.lit (.bool false)], args := [d] }
  | _ => none }
def ZoneJoinsWrongFalsely : Prop := zoneJoinsRow.holds Try.pinned (OpenSpec.ofChange zoneJoinsWrong)

/-- 'colonnadelaw14.ZoneBack': WHATEVER THE INPUT: true; the input reads as it did. -/
def zoneBackSpec : ChangeSpec := { name := "zoneBack", fn := fun _ => fun
  | [d1, d2, d3] => { results := [.lit (.bool true)], args := [d1, d2, d3] }
  | _ => none }
def zoneBackRow : OpenClaim := { program := "ythiidgmemoineaa", sum := "1e0970ba581a9b07a286966b9bfd274bcdb3c9cc6ab6bb0fa5a10901c9661dfb", func := "colonnade/colonnadelaw14.ZoneBack", spec := "zoneBack", inPlace := ["math.Float64bits", "math.Float64frombits", "internal/bytealg.abigen_runtime_cmpstring", "math.archTrunc"], unfollowed := true, recurses := true, apart := false }
def ZoneBackSaid : Prop := zoneBackRow.holds Try.pinned (OpenSpec.ofChange zoneBackSpec)

/-- ITS FALSE NEIGHBOUR: 'it returns false'. Refute it at one input. -/
def zoneBackWrong : ChangeSpec := { name := "zoneBack", fn := fun _ => fun
  | [d1, d2, d3] => { results := [.lit (.bool false)], args := [d1, d2, d3] }
  | _ => none }
def ZoneBackWrongFalsely : Prop := zoneBackRow.holds Try.pinned (OpenSpec.ofChange zoneBackWrong)

/- THE SECOND FORM. 'bulk': how many values and letters a reading holds, each counted each time it is reached (what is shared counts as often as it is met; a slice's spare places count too). A statement '..UptoSaid' is the law's where the arguments, and the package variables that the reading takes, are together of bulk at most 1048576: NARROWER than '..Said'. Prove '..Said' where nothing that the law and all that it calls make is longer than what came in: it says more and counts as full. Else prove '..UptoSaid'. A law counts once. -/
mutual
def uptoBulk {H : Type} : DataW H → Nat
  | .lit (.string bytes) => bytes.length + 1
  | .lit _ => 1
  | .nil => 1
  | .ptr d => uptoBulk d + 1
  | .slice elems spare => uptoBulkAll elems + uptoBulkAll spare + 1
  | .agg parts => uptoBulkAll parts + 1
  | .iface _ d => uptoBulk d + 1
  | .map entries => uptoBulkEntries entries + 1
  | .held _ => 1
def uptoBulkAll {H : Type} : List (DataW H) → Nat
  | [] => 0
  | d :: r => uptoBulk d + uptoBulkAll r
def uptoBulkEntries {H : Type} : List (Lit × DataW H) → Nat
  | [] => 0
  | x :: r => uptoBulkEntry x + uptoBulkEntries r
def uptoBulkEntry {H : Type} : Lit × DataW H → Nat
  | (.string bytes, d) => bytes.length + uptoBulk d + 1
  | (_, d) => uptoBulk d + 1
 end
def uptoSmall : (H : Type) → List (DataW H) → Bool := fun _ ds => decide (uptoBulkAll ds ≤ 1048576)
def OpenSpec.upto (s : _root_.Go.ChangeSpec) : _root_.Go.OpenSpec := { _root_.Go.OpenSpec.ofChange s with cond := some uptoSmall }

/-- 'colonnadelaw14.ZoneOfs', WHERE WHAT IT READS IS OF BULK AT MOST 1048576: true; the input reads as it did. -/
def zoneOfsUptoRow : OpenClaim := { program := "ythiidgmemoineaa", sum := "1e0970ba581a9b07a286966b9bfd274bcdb3c9cc6ab6bb0fa5a10901c9661dfb", func := "colonnade/colonnadelaw14.ZoneOfs", spec := "zoneOfs", inPlace := ["math.Float64bits", "math.Float64frombits", "math.archTrunc", "internal/bytealg.abigen_runtime_cmpstring"], unfollowed := true, recurses := true, apart := false, narrowed := true }
def ZoneOfsUptoSaid : Prop := zoneOfsUptoRow.holds Try.pinned (OpenSpec.upto zoneOfsSpec)

/-- 'colonnadelaw14.ZoneMays', WHERE WHAT IT READS IS OF BULK AT MOST 1048576: true; the input reads as it did. -/
def zoneMaysUptoRow : OpenClaim := { program := "ythiidgmemoineaa", sum := "1e0970ba581a9b07a286966b9bfd274bcdb3c9cc6ab6bb0fa5a10901c9661dfb", func := "colonnade/colonnadelaw14.ZoneMays", spec := "zoneMays", inPlace := ["math.Float64bits", "math.Float64frombits", "math.archTrunc", "internal/bytealg.abigen_runtime_cmpstring"], recurses := true, apart := false, narrowed := true }
def ZoneMaysUptoSaid : Prop := zoneMaysUptoRow.holds Try.pinned (OpenSpec.upto zoneMaysSpec)

/-- 'colonnadelaw14.ZoneSounds', WHERE WHAT IT READS IS OF BULK AT MOST 1048576: true; the input reads as it did. -/
def zoneSoundsUptoRow : OpenClaim := { program := "ythiidgmemoineaa", sum := "1e0970ba581a9b07a286966b9bfd274bcdb3c9cc6ab6bb0fa5a10901c9661dfb", func := "colonnade/colonnadelaw14.ZoneSounds", spec := "zoneSounds", inPlace := ["math.Float64bits", "math.Float64frombits", "internal/bytealg.abigen_runtime_cmpstring", "math.archTrunc"], recurses := true, apart := false, narrowed := true }
def ZoneSoundsUptoSaid : Prop := zoneSoundsUptoRow.holds Try.pinned (OpenSpec.upto zoneSoundsSpec)

/-- 'colonnadelaw14.ZoneTakes', WHERE WHAT IT READS IS OF BULK AT MOST 1048576: true; the input reads as it did. -/
def zoneTakesUptoRow : OpenClaim := { program := "ythiidgmemoineaa", sum := "1e0970ba581a9b07a286966b9bfd274bcdb3c9cc6ab6bb0fa5a10901c9661dfb", func := "colonnade/colonnadelaw14.ZoneTakes", spec := "zoneTakes", inPlace := ["math.Float64bits", "math.Float64frombits", "math.archTrunc", "internal/bytealg.abigen_runtime_cmpstring"], unfollowed := true, recurses := true, apart := false, narrowed := true }
def ZoneTakesUptoSaid : Prop := zoneTakesUptoRow.holds Try.pinned (OpenSpec.upto zoneTakesSpec)

/-- 'colonnadelaw14.ZoneForm', WHERE WHAT IT READS IS OF BULK AT MOST 1048576: true; the input reads as it did. -/
def zoneFormUptoRow : OpenClaim := { program := "ythiidgmemoineaa", sum := "1e0970ba581a9b07a286966b9bfd274bcdb3c9cc6ab6bb0fa5a10901c9661dfb", func := "colonnade/colonnadelaw14.ZoneForm", spec := "zoneForm", inPlace := ["math.Float64bits", "math.Float64frombits", "internal/bytealg.abigen_runtime_cmpstring"], unfollowed := true, recurses := true, apart := false, narrowed := true }
def ZoneFormUptoSaid : Prop := zoneFormUptoRow.holds Try.pinned (OpenSpec.upto zoneFormSpec)

/-- 'colonnadelaw14.ZoneNarrowest', WHERE WHAT IT READS IS OF BULK AT MOST 1048576: true; the input reads as it did. -/
def zoneNarrowestUptoRow : OpenClaim := { program := "ythiidgmemoineaa", sum := "1e0970ba581a9b07a286966b9bfd274bcdb3c9cc6ab6bb0fa5a10901c9661dfb", func := "colonnade/colonnadelaw14.ZoneNarrowest", spec := "zoneNarrowest", inPlace := ["math.Float64bits", "math.Float64frombits", "internal/bytealg.abigen_runtime_cmpstring"], unfollowed := true, recurses := true, apart := false, narrowed := true }
def ZoneNarrowestUptoSaid : Prop := zoneNarrowestUptoRow.holds Try.pinned (OpenSpec.upto zoneNarrowestSpec)

/-- 'colonnadelaw14.ZoneOwn', WHERE WHAT IT READS IS OF BULK AT MOST 1048576: true; the input reads as it did. -/
def zoneOwnUptoRow : OpenClaim := { program := "ythiidgmemoineaa", sum := "1e0970ba581a9b07a286966b9bfd274bcdb3c9cc6ab6bb0fa5a10901c9661dfb", func := "colonnade/colonnadelaw14.ZoneOwn", spec := "zoneOwn", inPlace := ["math.Float64bits", "math.Float64frombits", "internal/bytealg.abigen_runtime_cmpstring"], unfollowed := true, recurses := true, apart := false, narrowed := true }
def ZoneOwnUptoSaid : Prop := zoneOwnUptoRow.holds Try.pinned (OpenSpec.upto zoneOwnSpec)

/-- 'colonnadelaw14.ZoneJoins', WHERE WHAT IT READS IS OF BULK AT MOST 1048576: true; the input reads as it did. -/
def zoneJoinsUptoRow : OpenClaim := { program := "ythiidgmemoineaa", sum := "1e0970ba581a9b07a286966b9bfd274bcdb3c9cc6ab6bb0fa5a10901c9661dfb", func := "colonnade/colonnadelaw14.ZoneJoins", spec := "zoneJoins", inPlace := ["math.Float64bits", "math.Float64frombits", "internal/bytealg.abigen_runtime_cmpstring"], unfollowed := true, recurses := true, apart := false, narrowed := true }
def ZoneJoinsUptoSaid : Prop := zoneJoinsUptoRow.holds Try.pinned (OpenSpec.upto zoneJoinsSpec)

/-- 'colonnadelaw14.ZoneBack', WHERE WHAT IT READS IS OF BULK AT MOST 1048576: true; the input reads as it did. -/
def zoneBackUptoRow : OpenClaim := { program := "ythiidgmemoineaa", sum := "1e0970ba581a9b07a286966b9bfd274bcdb3c9cc6ab6bb0fa5a10901c9661dfb", func := "colonnade/colonnadelaw14.ZoneBack", spec := "zoneBack", inPlace := ["math.Float64bits", "math.Float64frombits", "internal/bytealg.abigen_runtime_cmpstring", "math.archTrunc"], unfollowed := true, recurses := true, apart := false, narrowed := true }
def ZoneBackUptoSaid : Prop := zoneBackUptoRow.holds Try.pinned (OpenSpec.upto zoneBackSpec)

end Rows
end Go.Proofs.Ythiidgmemoineaa
