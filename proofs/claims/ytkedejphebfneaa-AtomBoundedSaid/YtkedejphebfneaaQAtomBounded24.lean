/- The texts of AtomBounded, merged: part 24. -/
import Derived.Test.YtkedejphebfneaaQAtomBounded5
import Derived.Test.YtkedejphebfneaaQAtomBounded9
import Derived.Test.YtkedejphebfneaaQAtomBounded23
/- colonnaderef18.May, its walk by hand: where a Real is infinite, its difference to itself is no number, of whatever bits. -/
namespace Go.Proofs.Ytkedejphebfneaa.Pa
open Go.Proofs.Ytkedejphebfneaa.L Go.Proofs.Ytkedejphebfneaa.F Go.RowKit Go.Proofs.YtkedejphebfneaaW.PrintWords Go.Proofs.YtkedejphebfneaaW.PrintLast Go.Proofs.YtkedejphebfneaaW.PrintMore
attribute [local go_sem] run_store_float cmp_feq cmp_fne cmp_flt cmp_fle cmp_fgt cmp_fge un_fneg equalIn_feq run_fop run_fint run_freal cmp_sgt
set_option linter.unusedVariables false
set_option linter.unusedSimpArgs false
theorem nan_word (t : Nat) : ((t % 2) * 2 ^ 63 + 0x7ff0000000000000 + 1 + (t / 2) % (2 ^ 52 - 1)) % 9223372036854775808 ≠ 0 := by
 have h1 : (t / 2) % (2 ^ 52 - 1) < 2 ^ 52 - 1 := Nat.mod_lt _ (by decide)
 generalize (t / 2) % (2 ^ 52 - 1) = q at h1
 generalize t % 2 = s
 have e : s * 2 ^ 63 + 0x7ff0000000000000 + 1 + q = (0x7ff0000000000000 + 1 + q) + s * 9223372036854775808 := by
  rw [show (2 : Nat) ^ 63 = 9223372036854775808 by decide]
  omega
 rw [e, Nat.add_mul_mod_self_right]
 have h2 : q < 4503599627370495 := h1
 rw [Nat.mod_eq_of_lt (by omega)]
 omega
theorem run_nan_sub (P : Program) (w : World) (t : TypeId) (a b : Nat) (h : fok .sub a b = false) : ∃ c, (binOp .sub t (.float .f64 a) (.float .f64 b)).run P w = .ok (.float .f64 c) w.drew ∧ feq c 0 = false := by
 unfold fok fbits at h
 simp only [Option.isSome_eq_false_iff, Option.isNone_iff_eq_none] at h
 refine ⟨(Question.nanBits .f64 a b).cut (w.tape w.drawn (Question.nanBits .f64 a b)), ?_, ?_⟩
 ·simp [binOp, Op.floatArith, h, choose]
  rfl
 ·rw [feq_zero]
  exact decide_eq_false (nan_word _)
def zeroR (r : Nat) : Bool := feq r 0 && fgt (fval .quo 4607182418800017408 r) 0
def mayR (k i : Int) (r : Nat) (s : ByteArray) : Bool :=
 if k = 0 then (i == 0) && (s.toList.isEmpty) && zeroR r
 else if k = 1 then (s.toList.isEmpty) && zeroR r
 else if k = 2 then (i == 0) && zeroR r && decide (s.size ≤ 65535)
 else if k = 3 then (i == 0) && (s.toList.isEmpty) && fok .sub r r && (!(feq r 0) || zeroR r)
 else false
def colonnaderef18_May.f (a0 a1 : Int) (a2 : Nat) (a3 : ByteArray) : Option Bool := some (mayR a0 a1 a2 a3)
theorem quo_ok {r : Nat} (h : feq r 0 = true) : fok .quo 4607182418800017408 r = true := by
 rw [feq_zero] at h
 obtain ⟨d, h1, _⟩ := one_div (of_decide_eq_true h)
 unfold fok
 rw [h1]; rfl
theorem ret_bool {a b : Bool} (h : a = b) : Ending.returned (.bool a) = .returned (.bool b) := by rw [h]
set_option maxHeartbeats 8000000 in
theorem colonnaderef18_May.calls (a0_0 : Int) (a0_1 : Int) (a0_2 : Nat) (a0_3 : ByteArray) (r : Bool) (w : World) (h : colonnaderef18_May.f a0_0 a0_1 a0_2 a0_3 = some r) :
  Calls Try.prog 50 #[.agg #[.int .i64 a0_0, .int .i64 a0_1, .float .f64 a0_2, .string a0_3]] w fun e w' => e = .returned (.bool r) ∧ Below w.heap.size w w' := by
 obtain rfl : mayR a0_0 a0_1 a0_2 a0_3 = r := Option.some.inj h
 clear h
 have hq : feq a0_2 0 = true → fok .quo 4607182418800017408 a0_2 = true := quo_ok
 by_cases hz : feq a0_2 0 = true
 ·have hz1 := hq hz
  have hs : fok .sub a0_2 a0_2 = true ∧ feq (fval .sub a0_2 a0_2) 0 = true := by
   rcases self_sub a0_2 with h | h
   ·exact h.2
   ·rw [feq_zero] at hz
    have := of_decide_eq_true hz
    have h3 : infR ≤ 0 := this ▸ h.1
    exact absurd h3 (by decide)
  obtain ⟨hs1, hs2⟩ := hs
  have M : mayR a0_0 a0_1 a0_2 a0_3 = (if a0_0 = 0 then (a0_1 == 0) && (a0_3.toList.isEmpty) && fgt (fval .quo 4607182418800017408 a0_2) 0 else if a0_0 = 1 then (a0_3.toList.isEmpty) && fgt (fval .quo 4607182418800017408 a0_2) 0 else if a0_0 = 2 then (a0_1 == 0) && fgt (fval .quo 4607182418800017408 a0_2) 0 && decide (a0_3.size ≤ 65535) else if a0_0 = 3 then (a0_1 == 0) && (a0_3.toList.isEmpty) && fgt (fval .quo 4607182418800017408 a0_2) 0 else false) := by
   unfold mayR zeroR; rw [hz, hs1]; simp
  rw [M]
  clear M hq
  go_enter Try.func50, Try.ntmps50
  go_wp2_with (fail)
  all_goals (go_ret; exact ⟨ret_bool (by simp_all <;> omega), by first | exact below_alloc (Below.refl _ _) _ | exact below_drew (below_alloc (Below.refl _ _) _)⟩)
 ·replace hz : feq a0_2 0 = false := by simpa using hz
  rcases self_sub a0_2 with ⟨_, hs1, hs2⟩ | ⟨_, hs1⟩
  ·have M : mayR a0_0 a0_1 a0_2 a0_3 = (if a0_0 = 3 then (a0_1 == 0) && (a0_3.toList.isEmpty) else false) := by
    unfold mayR zeroR; rw [hz, hs1]
    by_cases h3 : a0_0 = 3
    ·subst h3; simp
    ·simp [h3]
   rw [M]
   clear M hq
   go_enter Try.func50, Try.ntmps50
   go_wp2_with (fail)
   all_goals (go_ret; exact ⟨ret_bool (by simp_all <;> omega), by first | exact below_alloc (Below.refl _ _) _ | exact below_drew (below_alloc (Below.refl _ _) _)⟩)
  ·have M : mayR a0_0 a0_1 a0_2 a0_3 = false := by
    unfold mayR zeroR; rw [hz, hs1]; simp
   rw [M]
   clear M hq
   by_cases h1 : a0_1 = 0
   ·subst h1
    obtain ⟨cn, hrun, hcn⟩ := run_nan_sub Try.prog (w.alloc (.cells #[.int .i64 a0_0, .int .i64 0, .float .f64 a0_2, .string a0_3] 28)) 26 a0_2 a0_2 hs1
    go_enter Try.func50, Try.ntmps50
    go_wp2_with (fail)
    all_goals (go_ret; exact ⟨ret_bool (by simp_all <;> omega), by first | exact below_alloc (Below.refl _ _) _ | exact below_drew (below_alloc (Below.refl _ _) _)⟩)
   ·have h1b : (a0_1 == 0) = false := by simpa using h1
    go_enter Try.func50, Try.ntmps50
    go_wp2_with (fail)
    all_goals (go_ret; exact ⟨ret_bool (by simp_all <;> omega), by first | exact below_alloc (Below.refl _ _) _ | exact below_drew (below_alloc (Below.refl _ _) _)⟩)
end Go.Proofs.Ytkedejphebfneaa.Pa
