/- The texts of AtomBounds, merged: part 31. -/
import Derived.Test.YtkedejphebfneaaQAtomBounds30
import Derived.Test.YtkedejphebfneaaQAtomBounds22
import Derived.Test.YtkedejphebfneaaQAtomBounds5
import Derived.Test.YtkedejphebfneaaQAtomBounds7
/- Alike: a value is like itself. -/
namespace Go.Proofs.Ytkedejphebfneaa.V
open Go.RowKit Go.Proofs.Ytkedejphebfneaa.Pa Go.Proofs.Ytkedejphebfneaa.L Go.Proofs.Ytkedejphebfneaa.F Go.Proofs.YtkedejphebfneaaW.PrintWords Go.Proofs.YtkedejphebfneaaW.PrintLast Go.Proofs.YtkedejphebfneaaW.PrintMore
set_option linter.unusedVariables false
set_option linter.unusedSimpArgs false
theorem word_le (neg : Bool) {r : Nat} (h : r ≤ infR) : rg (Ieee.double.word neg r) ≤ infR := by
 have : infR < 9223372036854775808 := by decide
 rw [(word_rg neg (by omega)).1]; exact h
theorem nearest_le (neg : Bool) (mag : Nat) (place : Int) : rg (Ieee.double.nearest neg mag place) ≤ infR := by
 unfold Ieee.Format.nearest
 by_cases h : mag = 0
 ·rw [if_pos h]; exact word_le neg (by decide)
 ·rw [if_neg h]; exact word_le neg (Nat.le_trans (Nat.min_le_right _ _) (by rw [e_inf]; exact Nat.le_refl _))
theorem one_quo {r : Nat} (h : rg r ≤ infR) : ∃ q, fbits .quo 4607182418800017408 r = some q ∧ rg q ≤ infR := by
 have h1 : Ieee.double.read 4607182418800017408 = .number false 4503599627370496 (-52) := by decide +kernel
 unfold fbits
 simp only []
 rw [show FloatKind.f64.format = Ieee.double from rfl]
 unfold Ieee.Format.div
 rw [h1]
 rcases Nat.lt_or_ge (rg r) infR with hf | hf
 ·obtain ⟨m, e, h2, v2⟩ := read_fin hf
  rw [h2]
  simp only [Ieee.Datum.quotient]
  by_cases hm : m = 0
  ·rw [if_pos hm, if_neg (by decide)]
   exact ⟨_, rfl, word_le _ (by rw [e_inf]; exact Nat.le_refl _)⟩
  ·rw [if_neg hm]
   exact ⟨_, rfl, nearest_le _ _ _⟩
 ·rw [read_inf (Nat.le_antisymm h hf)]
  exact ⟨_, rfl, nearest_le _ _ _⟩
theorem alike_self (a b : Int) (r : Nat) (s : ByteArray) : colonnadelaw18_alike.f a b r s a b r s = some true := by
 unfold colonnadelaw18_alike.f
 rw [if_pos rfl, if_pos rfl, if_pos rfl, feq_self]
 by_cases h : rg r ≤ infR
 ·obtain ⟨q, h1, h2⟩ := one_quo h
  have hk : fok .quo 4607182418800017408 r = true := by unfold fok; rw [h1]; rfl
  have hv : fval .quo 4607182418800017408 r = q := by unfold fval; rw [h1]; rfl
  rw [if_pos (decide_eq_true h), if_pos hk, if_pos hk, hv, feq_self, if_pos (decide_eq_true h2)]
 ·have hd := decide_eq_false h
  rw [hd]
  rfl
theorem like_self (a0 : Int) (a1 : ByteArray) (a2 a3 a4 : Int) (a5 : Nat) (a6 : ByteArray) : colonnadelaw18_like.f a0 a1 a2 a3 a4 a5 a6 [] [] a0 a1 a2 a3 a4 a5 a6 [] [] = some true := by
 unfold colonnadelaw18_like.f
 rw [if_pos rfl, if_pos rfl, if_pos rfl, alike_self]
 rfl
end Go.Proofs.Ytkedejphebfneaa.V
