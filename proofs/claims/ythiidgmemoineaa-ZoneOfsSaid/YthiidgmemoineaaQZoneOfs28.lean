/- The texts of ZoneOfs, merged: part 28. -/
import Derived.Test.YthiidgmemoineaaQZoneOfs27
/- slices.MinFunc and MaxFunc over values, by value.Compare: as a print asks for them (the value's parts). -/
namespace Go.Proofs.Ythiidgmemoineaa.Pa
open Go.RowKit Go.Proofs.YthiidgmemoineaaW.PrintWords Go.Proofs.YthiidgmemoineaaW.PrintLast Go.Proofs.YthiidgmemoineaaW.PrintMore
set_option linter.unusedVariables false
def minCmp.f (k : Nat) (l : List S28) : Option (Int × Int × Nat × ByteArray) := (minCompare.f k l).bind fun s => some (s.f0, s.f1, s.f2, s.f3)
theorem minCmp.mono (l : List S28) (k : Nat) : LeO (minCmp.f k l) (minCmp.f (k + 1) l) :=
  LeO.bind (minCompare.mono l k) (fun _ => LeO.refl _)
theorem minCmp.calls (k : Nat) (A0 : Option Addr) (c0 : Nat) (l : List S28) (r1 r2 : Int) (r3 : Nat) (r4 : ByteArray) (w : World) (hr0 : Kd.C k28 w A0 l.length l) (hc0 : l.length ≤ c0) (h : minCmp.f k l = some (r1, r2, r3, r4)) :
    Calls Try.prog 51 #[.slice A0 l.length c0, .func (.func 38) #[] #[]] w fun e w' => e = .returned (.agg #[.int .i64 r1, .int .i64 r2, .float .f64 r3, .string r4]) ∧ Below w.heap.size w w' := by
  obtain ⟨s, hs, he⟩ := Option.bind_eq_some_iff.1 h
  injection he with he
  simp only [Prod.mk.injEq] at he
  obtain ⟨rfl, rfl, rfl, rfl⟩ := he
  exact minCompare.calls k A0 c0 l s w hr0 hc0 hs
def maxCmp.f (k : Nat) (l : List S28) : Option (Int × Int × Nat × ByteArray) := (maxCompare.f k l).bind fun s => some (s.f0, s.f1, s.f2, s.f3)
theorem maxCmp.mono (l : List S28) (k : Nat) : LeO (maxCmp.f k l) (maxCmp.f (k + 1) l) :=
  LeO.bind (maxCompare.mono l k) (fun _ => LeO.refl _)
theorem maxCmp.calls (k : Nat) (A0 : Option Addr) (c0 : Nat) (l : List S28) (r1 r2 : Int) (r3 : Nat) (r4 : ByteArray) (w : World) (hr0 : Kd.C k28 w A0 l.length l) (hc0 : l.length ≤ c0) (h : maxCmp.f k l = some (r1, r2, r3, r4)) :
    Calls Try.prog 52 #[.slice A0 l.length c0, .func (.func 38) #[] #[]] w fun e w' => e = .returned (.agg #[.int .i64 r1, .int .i64 r2, .float .f64 r3, .string r4]) ∧ Below w.heap.size w w' := by
  obtain ⟨s, hs, he⟩ := Option.bind_eq_some_iff.1 h
  injection he with he
  simp only [Prod.mk.injEq] at he
  obtain ⟨rfl, rfl, rfl, rfl⟩ := he
  exact maxCompare.calls k A0 c0 l s w hr0 hc0 hs
end Go.Proofs.Ythiidgmemoineaa.Pa
