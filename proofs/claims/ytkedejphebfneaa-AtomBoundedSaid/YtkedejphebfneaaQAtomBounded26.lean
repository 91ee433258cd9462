/- The texts of AtomBounded, merged: part 26. -/
import Derived.Test.YtkedejphebfneaaQAtomBounded24
import Derived.Test.YtkedejphebfneaaQAtomBounded5
/- May a value be: the program's answer and the document's are one. Plain: no program in sight. -/
namespace Go.Proofs.Ytkedejphebfneaa.V
open Go.RowKit Go.Proofs.Ytkedejphebfneaa.Pa Go.Proofs.Ytkedejphebfneaa.L Go.Proofs.Ytkedejphebfneaa.F Go.Proofs.YtkedejphebfneaaW.PrintWords Go.Proofs.YtkedejphebfneaaW.PrintLast Go.Proofs.YtkedejphebfneaaW.PrintMore
set_option linter.unusedVariables false
set_option linter.unusedSimpArgs false
theorem evn_of {α : Type} {g : Nat → Option α} {r : α} (h : ∀ k, LeO (g k) (g (k + 1))) (k0 : Nat) (e : g k0 = some r) : Evn g r :=
 ⟨k0, fun k hk => at_rounds h hk e⟩
theorem abs_bits {r : Nat} (h : r < 18446744073709551616) : (Go.bits .andNot .u64 (r : Int) 9223372036854775808).toNat = rg r := by
 have e : (~~~(BitVec.ofInt 64 9223372036854775808)).toNat = 9223372036854775807 := by decide +kernel
 have h1 : Go.bits .andNot .u64 (r : Int) 9223372036854775808 = IntKind.u64.wrap (((BitVec.ofInt 64 (r : Int)) &&& ~~~(BitVec.ofInt 64 9223372036854775808)).toNat : Int) := rfl
 rw [h1, BitVec.toNat_and, e, BitVec.ofInt_natCast, BitVec.toNat_ofNat, Nat.mod_eq_of_lt (show r < 2 ^ 64 from h), show (9223372036854775807 : Nat) = 2 ^ 63 - 1 by decide, Nat.and_two_pow_sub_one_eq_mod]
 have h2 : r % 2 ^ 63 < 9223372036854775808 := Nat.mod_lt _ (by decide)
 rw [u64_in (by omega) (by omega)]
 rfl
def mayS (k i : Int) (r : Nat) (s : ByteArray) : Bool :=
 decide ((k = 0 ∧ i = 0 ∧ s.toList = [] ∧ r = 0) ∨ (k = 1 ∧ s.toList = [] ∧ r = 0) ∨ (k = 2 ∧ i = 0 ∧ s.size ≤ 65535 ∧ r = 0) ∨ (k = 3 ∧ i = 0 ∧ s.toList = [] ∧ rg r < infR ∧ r ≠ 9223372036854775808))
theorem zeroR_eq {r : Nat} (h : r < 18446744073709551616) : zeroR r = decide (r = 0) := by
 unfold zeroR
 rw [feq_zero]
 by_cases hz : rg r = 0
 ·obtain ⟨d, h1, h2, h3⟩ := one_div hz
  have hv : fval .quo 4607182418800017408 r = d := by unfold fval; rw [h1]; rfl
  rw [hv, decide_eq_true hz, Bool.true_and]
  have h4 : fgt d 0 = !sg d := by
   unfold fgt
   rw [show FloatKind.f64.format = Ieee.double from rfl]
   unfold Ieee.Format.order
   obtain ⟨m, x, h5, _⟩ := read_fin rg_zero
   rw [read_inf h2, h5]
   cases sg d <;> rfl
  rw [h4, h3]
  have hs := split_word h
  rw [hz] at hs
  cases hq : sg r
  ·rw [hq] at hs
   simp at hs
   simp [hs]
  ·rw [hq] at hs
   simp at hs
   simp; omega
 ·rw [decide_eq_false hz, Bool.false_and]
  refine (decide_eq_false ?_).symm
  intro e
  rw [e] at hz
  exact hz rfl
theorem rg_big {r : Nat} (h : r < 18446744073709551616) : (rg r = 0 ↔ r = 0 ∨ r = 9223372036854775808) := by
 unfold rg
 omega
theorem fok_self (r : Nat) : fok .sub r r = decide (rg r < infR) := by
 rcases self_sub r with ⟨h1, h2, _⟩ | ⟨h1, h2⟩
 ·rw [h2, decide_eq_true h1]
 ·rw [h2, decide_eq_false (by omega)]
theorem size_nil {s : ByteArray} (h : s.toList = []) : s.size = 0 := by
 have := congrArg List.length h
 rw [ByteArray.toList_eq] at this
 simpa using this
theorem mayR_eq (k i : Int) {r : Nat} (s : ByteArray) (h : r < 18446744073709551616) : mayR k i r s = mayS k i r s := by
 unfold mayR mayS
 rw [zeroR_eq h, fok_self, feq_zero]
 have hb := rg_big h
 rw [Bool.eq_iff_iff]
 by_cases h0 : k = 0
 ·subst h0; simp [List.isEmpty_iff, and_assoc]
 by_cases h1 : k = 1
 ·subst h1; simp [List.isEmpty_iff, and_assoc]
 by_cases h2 : k = 2
 ·subst h2
  simp [List.isEmpty_iff, and_assoc]
  exact fun _ => ⟨fun a => ⟨a.2, a.1⟩, fun a => ⟨a.2, a.1⟩⟩
 by_cases h3 : k = 3
 ·subst h3
  rw [if_neg (by decide), if_neg (by decide), if_neg (by decide), if_pos rfl]
  simp [List.isEmpty_iff]
  constructor
  ·rintro ⟨⟨⟨a, b⟩, c⟩, d⟩
   refine ⟨a, b, c, ?_⟩
   intro e
   rcases d with d | d
   ·exact d (hb.2 (Or.inr e))
   ·omega
  ·rintro ⟨a, b, c, d⟩
   refine ⟨⟨⟨a, b⟩, c⟩, ?_⟩
   by_cases e : r = 0
   ·exact Or.inr e
   ·exact Or.inl (fun z => by rcases hb.1 z with z | z <;> omega)
 ·rw [if_neg h0, if_neg h1, if_neg h2, if_neg h3]
  simp [h0, h1, h2, h3]
theorem may_f (k i : Int) {r : Nat} (s : ByteArray) (h : r < 18446744073709551616) : Evn (fun n => value_May.f n k i r s) (mayS k i r s) := by
 refine evn_of (fun n => value_May.mono _ _ _ _ _) 3 ?_
 have hab : math_Abs.f r = some (rg r) := by unfold math_Abs.f; rw [abs_bits h]
 have hne : ((r : Int) != 9223372036854775808) = decide (r ≠ 9223372036854775808) := by
  rw [Bool.eq_iff_iff]; simp; omega
 unfold value_May.f
 simp only [value_May.j0, value_May.j1, hab, Option.bind_some, fle_max, hne]
 have hr0 : ((r : Int) = 0) = (r = 0) := by simp
 simp only [hr0]
 unfold mayS
 by_cases h3 : k = 3
 ·subst h3
  by_cases hi : i = 0 <;> by_cases hs : s.toList = [] <;> by_cases hf : rg r < infR <;> simp [hi, hs, hf]
 ·by_cases h2 : k = 2
  ·subst h2
   by_cases hi : i = 0 <;> by_cases hs : s.toList = [] <;> by_cases hr : r = 0 <;> by_cases hsz : s.size ≤ 65535 <;> simp [hi, hs, hr, hsz] <;> (first | omega | (have := size_nil ‹_›; omega) | skip)
  ·by_cases h1 : k = 1
   ·subst h1
    by_cases hi : i = 0 <;> by_cases hs : s.toList = [] <;> by_cases hr : r = 0 <;> simp [hi, hs, hr]
   ·by_cases h0 : k = 0
    ·subst h0
     by_cases hi : i = 0 <;> by_cases hs : s.toList = [] <;> by_cases hr : r = 0 <;> simp [hi, hs, hr]
    ·by_cases hi : i = 0 <;> by_cases hs : s.toList = [] <;> by_cases hr : r = 0 <;> simp [hi, hs, hr, h3, h2, h1, h0] <;> omega
end Go.Proofs.Ytkedejphebfneaa.V
