/- The texts of ZoneOfs, merged: part 19. -/
import Derived.Test.YthiidgmemoineaaQZoneOfs18
import Derived.Test.YthiidgmemoineaaQZoneOfs13
import Derived.Test.YthiidgmemoineaaQZoneOfs6
/- May a value be: the program's answer, plainly (layers that do not ask layer 18's document). -/
namespace Go.Proofs.Ythiidgmemoineaa.V
open Go.RowKit Go.Proofs.Ythiidgmemoineaa.Pa Go.Proofs.Ythiidgmemoineaa.L Go.Proofs.Ythiidgmemoineaa.F Go.Proofs.YthiidgmemoineaaW.PrintWords Go.Proofs.YthiidgmemoineaaW.PrintLast Go.Proofs.YthiidgmemoineaaW.PrintMore
set_option linter.unusedVariables false
set_option linter.unusedSimpArgs false
theorem evn_of {α : Type} {g : Nat → Option α} {r : α} (h : ∀ k, LeO (g k) (g (k + 1))) (k0 : Nat) (e : g k0 = some r) : Evn g r :=
  ⟨k0, fun k hk => at_rounds h hk e⟩
theorem abs_bits {r : Nat} (h : r < 18446744073709551616) : (Go.bits .andNot .u64 (r : Int) 9223372036854775808).toNat = rg r := by
  have e : (~~~(BitVec.ofInt 64 9223372036854775808)).toNat = 9223372036854775807 := by decide +kernel
  have h1 : Go.bits .andNot .u64 (r : Int) 9223372036854775808 = IntKind.u64.wrap (((BitVec.ofInt 64 (r : Int)) &&& ~~~(BitVec.ofInt 64 9223372036854775808)).toNat : Int) := rfl
  rw [h1, BitVec.toNat_and, e, BitVec.ofInt_natCast, BitVec.toNat_ofNat, Nat.mod_eq_of_lt (show r < 2 ^ 64 from h), show (9223372036854775807 : Nat) = 2 ^ 63 - 1 by decide, Nat.and_two_pow_sub_one_eq_mod]
  have h2 : r % 2 ^ 63 < 9223372036854775808 := Nat.mod_lt _ (by decide)
  rw [u64_in (by omega) (by omega)]
  rfl
/-- A value that may be. -/
def mayS (k i : Int) (r : Nat) (s : ByteArray) : Bool :=
  decide ((k = 0 ∧ i = 0 ∧ s.toList = [] ∧ r = 0) ∨ (k = 1 ∧ s.toList = [] ∧ r = 0) ∨ (k = 2 ∧ i = 0 ∧ s.size ≤ 65535 ∧ r = 0) ∨ (k = 3 ∧ i = 0 ∧ s.toList = [] ∧ rg r < infR ∧ r ≠ 9223372036854775808))
theorem size_nil {s : ByteArray} (h : s.toList = []) : s.size = 0 := by
  have := congrArg List.length h
  rw [ByteArray.toList_eq] at this
  simpa using this
theorem may_f (k i : Int) {r : Nat} (s : ByteArray) (h : r < 18446744073709551616) : Evn (fun n => value_May.f n k i r s) (mayS k i r s) := by
  refine evn_of (fun n => value_May.mono _ _ _ _ _) 3 ?_
  have hab : math_Abs.f r = some (rg r) := by unfold math_Abs.f; rw [abs_bits h]
  have hne : ((r : Int) != 9223372036854775808) = decide (r ≠ 9223372036854775808) := by
    rw [Bool.eq_iff_iff]; simp; omega
  unfold value_May.f
  simp only [value_May.j0, value_May.j1, hab, Option.bind_some, fle_max, hne]
  have hr0 : ((r : Int) = 0) = (r = 0) := by simp
  simp only [hr0]
  unfold mayS
  by_cases h3 : k = 3
  · subst h3
    by_cases hi : i = 0 <;> by_cases hs : s.toList = [] <;> by_cases hf : rg r < infR <;> simp [hi, hs, hf]
  · by_cases h2 : k = 2
    · subst h2
      by_cases hi : i = 0 <;> by_cases hs : s.toList = [] <;> by_cases hr : r = 0 <;> by_cases hsz : s.size ≤ 65535 <;> simp [hi, hs, hr, hsz] <;> (first | omega | (have := size_nil ‹_›; omega) | skip)
    · by_cases h1 : k = 1
      · subst h1
        by_cases hi : i = 0 <;> by_cases hs : s.toList = [] <;> by_cases hr : r = 0 <;> simp [hi, hs, hr]
      · by_cases h0 : k = 0
        · subst h0
          by_cases hi : i = 0 <;> by_cases hs : s.toList = [] <;> by_cases hr : r = 0 <;> simp [hi, hs, hr]
        · by_cases hi : i = 0 <;> by_cases hs : s.toList = [] <;> by_cases hr : r = 0 <;> simp [hi, hs, hr, h3, h2, h1, h0] <;> omega
end Go.Proofs.Ythiidgmemoineaa.V
