/- The texts of AtomBounded, merged: part 22. -/
import Derived.Test.YtkedejphebfneaaQAtomBounded2
/- Reals by their bits: how two finite ones stand to each other, their difference, their whole part. No program in sight. -/
namespace Go.Proofs.Ytkedejphebfneaa.F
open Go.Proofs.YtkedejphebfneaaW.PrintWords
set_option linter.unusedVariables false
set_option linter.unusedSimpArgs false
def sg (b : Nat) : Bool := b / 9223372036854775808 % 2 == 1
def rg (b : Nat) : Nat := b % 9223372036854775808
def infR : Nat := 9218868437227405312
def V (r : Nat) : Nat := if r < 4503599627370496 then r else (4503599627370496 + r % 4503599627370496) * 2 ^ (r / 4503599627370496 - 1)
def val (b : Nat) : Int := if sg b then -(V (rg b) : Int) else (V (rg b) : Int)
theorem e_sw : Ieee.double.signWeight = 9223372036854775808 := by decide +kernel
theorem e_bin : Ieee.double.binade = 4503599627370496 := by decide +kernel
theorem e_inf : Ieee.double.infRung = 9218868437227405312 := by decide +kernel
theorem e_lp : Ieee.double.leastPlace = -1074 := by decide +kernel
theorem e_fb : Ieee.double.fractionBits = 52 := rfl
theorem rg_lt (b : Nat) : rg b < 9223372036854775808 := Nat.mod_lt _ (by decide)
theorem read_fin {b : Nat} (h : rg b < infR) : ∃ m e : Nat, Ieee.double.read b = .number (sg b) m (-1074 + (e : Int)) ∧ m * 2 ^ e = V (rg b) := by
 unfold Ieee.Format.read
 rw [e_sw, e_bin, e_inf, e_lp]
 simp only []
 by_cases h1 : rg b < 4503599627370496
 ·refine ⟨rg b, 0, ?_, ?_⟩
  ·rw [if_pos (show b % 9223372036854775808 < 4503599627370496 from h1)]; rfl
  ·unfold V; rw [if_pos h1]; simp
 ·refine ⟨4503599627370496 + rg b % 4503599627370496, rg b / 4503599627370496 - 1, ?_, ?_⟩
  ·rw [if_neg (show ¬ b % 9223372036854775808 < 4503599627370496 from h1), if_pos (show b % 9223372036854775808 < 9218868437227405312 from h)]; rfl
  ·unfold V; rw [if_neg h1]
theorem read_inf {b : Nat} (h : rg b = infR) : Ieee.double.read b = .infinity (sg b) := by
 unfold Ieee.Format.read
 rw [e_sw, e_bin, e_inf, e_lp]
 have h' : b % 9223372036854775808 = 9218868437227405312 := h
 simp only [h']
 rw [if_neg (by omega), if_neg (by omega), if_pos trivial]; rfl
theorem read_nan {b : Nat} (h : infR < rg b) : ∃ t, Ieee.double.read b = .nan (sg b) t := by
 unfold Ieee.Format.read
 rw [e_sw, e_bin, e_inf, e_lp]
 have h' : 9218868437227405312 < b % 9223372036854775808 := h
 simp only []
 rw [if_neg (by omega), if_neg (by omega), if_neg (by omega)]
 exact ⟨_, rfl⟩
theorem V_mono {r s : Nat} (h : r < s) : V r < V s := by
 unfold V
 by_cases h1 : s < 4503599627370496
 ·rw [if_pos h1, if_pos (by omega)]; exact h
 ·rw [if_neg h1]
  have hs : 4503599627370496 ≤ (4503599627370496 + s % 4503599627370496) * 2 ^ (s / 4503599627370496 - 1) := by
   have := Nat.two_pow_pos (s / 4503599627370496 - 1)
   calc 4503599627370496 ≤ 4503599627370496 + s % 4503599627370496 := by omega
    _ ≤ _ := Nat.le_mul_of_pos_right _ this
  by_cases h2 : r < 4503599627370496
  ·rw [if_pos h2]; omega
  ·rw [if_neg h2]
   have hq : r / 4503599627370496 ≤ s / 4503599627370496 := by omega
   rcases Nat.lt_or_ge (r / 4503599627370496) (s / 4503599627370496) with h3 | h3
   ·obtain ⟨d, hd⟩ : ∃ d, s / 4503599627370496 - 1 = (r / 4503599627370496 - 1) + 1 + d := ⟨s / 4503599627370496 - 1 - (r / 4503599627370496 - 1) - 1, by omega⟩
    rw [hd, Nat.pow_add, Nat.pow_succ]
    have p1 := Nat.two_pow_pos (r / 4503599627370496 - 1)
    have p2 := Nat.two_pow_pos d
    generalize 2 ^ (r / 4503599627370496 - 1) = a at *
    generalize 2 ^ d = c at *
    have l1 : (4503599627370496 + r % 4503599627370496) * a < 9007199254740992 * a := Nat.mul_lt_mul_of_pos_right (by omega) p1
    have l2 : 9007199254740992 * a ≤ (4503599627370496 + s % 4503599627370496) * (a * 2) := by
     have : 4503599627370496 * (a * 2) ≤ (4503599627370496 + s % 4503599627370496) * (a * 2) := Nat.mul_le_mul_right _ (by omega)
     omega
    have l3 : (4503599627370496 + s % 4503599627370496) * (a * 2) ≤ (4503599627370496 + s % 4503599627370496) * (a * 2 * c) := Nat.mul_le_mul_left _ (Nat.le_mul_of_pos_right _ p2)
    omega
   ·have : r / 4503599627370496 = s / 4503599627370496 := by omega
    rw [this]
    exact Nat.mul_lt_mul_of_pos_right (by omega) (Nat.two_pow_pos _)
theorem V_inj {r s : Nat} (h : V r = V s) : r = s := by
 rcases Nat.lt_trichotomy r s with h1 | h1 | h1
 ·have := V_mono h1; omega
 ·exact h1
 ·have := V_mono h1; omega
theorem V_le {r s : Nat} (h : r ≤ s) : V r ≤ V s := by
 rcases Nat.lt_or_ge r s with h1 | h1
 ·exact Nat.le_of_lt (V_mono h1)
 ·have : r = s := by omega
  subst this; exact Nat.le_refl _
theorem V_zero : V 0 = 0 := by unfold V; rfl
theorem V_pos {r : Nat} (h : 0 < r) : 0 < V r := by have := V_mono h; rw [V_zero] at this; exact this
theorem signed_eq (s : Bool) (m k : Nat) : Ieee.signed s m k = (if s then -((m * 2 ^ k : Nat) : Int) else ((m * 2 ^ k : Nat) : Int)) := by
 unfold Ieee.signed
 rw [Nat.shiftLeft_eq]
theorem cmp_scale (x y c : Int) (hc : 0 < c) : compare (x * c) (y * c) = compare x y := by
 rcases Int.lt_trichotomy x y with h | h | h
 ·rw [Int.compare_eq_lt.2 h, Int.compare_eq_lt.2 (Int.mul_lt_mul_of_pos_right h hc)]
 ·subst h; rw [Int.compare_eq_eq.2 rfl, Int.compare_eq_eq.2 rfl]
 ·rw [Int.compare_eq_gt.2 h, Int.compare_eq_gt.2 (Int.mul_lt_mul_of_pos_right h hc)]
theorem scale_one (s : Bool) (m e b : Nat) (h : b ≤ e) : (Ieee.signed s m (e - b)) * ((2 ^ b : Nat) : Int) = (if s then -((m * 2 ^ e : Nat) : Int) else ((m * 2 ^ e : Nat) : Int)) := by
 rw [signed_eq]
 have : m * 2 ^ (e - b) * 2 ^ b = m * 2 ^ e := by rw [Nat.mul_assoc, ← Nat.pow_add]; congr 2; omega
 cases s
 ·simp only [Bool.false_eq_true, if_false]; rw [← Int.natCast_mul, this]
 ·simp only [if_true]; rw [Int.neg_mul, ← Int.natCast_mul, this]
theorem order_fin {a b : Nat} (ha : rg a < infR) (hb : rg b < infR) : Ieee.double.order a b = some (compare (val a) (val b)) := by
 obtain ⟨m, e, h1, v1⟩ := read_fin ha
 obtain ⟨n, f, h2, v2⟩ := read_fin hb
 unfold Ieee.Format.order
 rw [h1, h2]
 simp only [Ieee.Datum.order]
 congr 1
 have hb1 : (-1074 + (e : Int) - min (-1074 + (e : Int)) (-1074 + (f : Int))).toNat = e - min e f := by omega
 have hb2 : (-1074 + (f : Int) - min (-1074 + (e : Int)) (-1074 + (f : Int))).toNat = f - min e f := by omega
 rw [hb1, hb2, ← cmp_scale _ _ ((2 ^ min e f : Nat) : Int) (by have := Nat.two_pow_pos (min e f); omega), scale_one _ _ _ _ (by omega), scale_one _ _ _ _ (by omega), v1, v2]
 rfl
theorem feq_fin {a b : Nat} (ha : rg a < infR) (hb : rg b < infR) : feq a b = decide (val a = val b) := by
 unfold feq
 rw [show FloatKind.f64.format = Ieee.double from rfl, order_fin ha hb]
 rcases Int.lt_trichotomy (val a) (val b) with h | h | h
 ·rw [Int.compare_eq_lt.2 h, decide_eq_false (by omega)]; rfl
 ·rw [Int.compare_eq_eq.2 h, decide_eq_true h]; rfl
 ·rw [Int.compare_eq_gt.2 h, decide_eq_false (by omega)]; rfl
theorem flt_fin {a b : Nat} (ha : rg a < infR) (hb : rg b < infR) : flt a b = decide (val a < val b) := by
 unfold flt
 rw [show FloatKind.f64.format = Ieee.double from rfl, order_fin ha hb]
 rcases Int.lt_trichotomy (val a) (val b) with h | h | h
 ·rw [Int.compare_eq_lt.2 h, decide_eq_true h]; rfl
 ·rw [Int.compare_eq_eq.2 h, decide_eq_false (by omega)]; rfl
 ·rw [Int.compare_eq_gt.2 h, decide_eq_false (by omega)]; rfl
theorem fgt_fin {a b : Nat} (ha : rg a < infR) (hb : rg b < infR) : fgt a b = decide (val a > val b) := by
 unfold fgt
 rw [show FloatKind.f64.format = Ieee.double from rfl, order_fin ha hb]
 rcases Int.lt_trichotomy (val a) (val b) with h | h | h
 ·rw [Int.compare_eq_lt.2 h, decide_eq_false (by omega)]; rfl
 ·rw [Int.compare_eq_eq.2 h, decide_eq_false (by omega)]; rfl
 ·rw [Int.compare_eq_gt.2 h, decide_eq_true h]; rfl
theorem fle_fin {a b : Nat} (ha : rg a < infR) (hb : rg b < infR) : fle a b = decide (val a ≤ val b) := by
 unfold fle
 rw [show FloatKind.f64.format = Ieee.double from rfl, order_fin ha hb]
 rcases Int.lt_trichotomy (val a) (val b) with h | h | h
 ·rw [Int.compare_eq_lt.2 h, decide_eq_true (by omega)]; rfl
 ·rw [Int.compare_eq_eq.2 h, decide_eq_true (by omega)]; rfl
 ·rw [Int.compare_eq_gt.2 h, decide_eq_false (by omega)]; rfl
theorem fge_fin {a b : Nat} (ha : rg a < infR) (hb : rg b < infR) : fge a b = decide (val a ≥ val b) := by
 unfold fge
 rw [show FloatKind.f64.format = Ieee.double from rfl, order_fin ha hb]
 rcases Int.lt_trichotomy (val a) (val b) with h | h | h
 ·rw [Int.compare_eq_lt.2 h, decide_eq_false (by omega)]; rfl
 ·rw [Int.compare_eq_eq.2 h, decide_eq_true (by omega)]; rfl
 ·rw [Int.compare_eq_gt.2 h, decide_eq_true (by omega)]; rfl
theorem order_nan {a b : Nat} (h : infR < rg a ∨ infR < rg b) : Ieee.double.order a b = none := by
 unfold Ieee.Format.order
 rcases h with h | h
 ·obtain ⟨t, e⟩ := read_nan h
  rw [e]; cases Ieee.double.read b <;> rfl
 ·obtain ⟨t, e⟩ := read_nan h
  rw [e]; cases Ieee.double.read a <;> rfl
theorem feq_self (a : Nat) : feq a a = decide (rg a ≤ infR) := by
 rcases Nat.lt_trichotomy (rg a) infR with h | h | h
 ·rw [feq_fin h h, decide_eq_true rfl, decide_eq_true (Nat.le_of_lt h)]
 ·rw [decide_eq_true (Nat.le_of_eq h)]
  unfold feq
  rw [show FloatKind.f64.format = Ieee.double from rfl]
  unfold Ieee.Format.order
  rw [read_inf h]
  simp only [Ieee.Datum.order]
  cases sg a <;> rfl
 ·rw [decide_eq_false (by omega)]
  unfold feq
  rw [show FloatKind.f64.format = Ieee.double from rfl, order_nan (.inl h)]
  rfl
theorem val_zero : val 0 = 0 := by unfold val sg rg; simp [V_zero]
theorem val_eq_zero {b : Nat} : val b = 0 ↔ rg b = 0 := by
 unfold val
 constructor
 ·intro h
  rcases Nat.eq_zero_or_pos (rg b) with h1 | h1
  ·exact h1
  ·have := V_pos h1
   split at h <;> omega
 ·intro h
  rw [h, V_zero]; split <;> rfl
theorem rg_zero : rg 0 < infR := by decide
theorem rg_rg (b : Nat) : rg (rg b) = rg b := Nat.mod_eq_of_lt (rg_lt b)
theorem sg_rg (b : Nat) : sg (rg b) = false := by
 unfold sg
 rw [Nat.div_eq_of_lt (rg_lt b)]; rfl
theorem fle_max (b : Nat) : fle (rg b) 9218868437227405311 = decide (rg b < infR) := by
 have hm : rg 9218868437227405311 < infR := by decide
 have sm : sg 9218868437227405311 = false := by decide
 have e : rg 9218868437227405311 = 9218868437227405311 := by decide
 rcases Nat.lt_trichotomy (rg b) infR with h | h | h
 ·rw [fle_fin (by rw [rg_rg]; exact h) hm, decide_eq_true h]
  simp only [val, sg_rg, sm, rg_rg, e, Bool.false_eq_true, if_false]
  have : rg b ≤ 9218868437227405311 := by unfold infR at h; omega
  have := V_le this
  exact decide_eq_true (by omega)
 ·rw [decide_eq_false (by omega)]
  unfold fle
  rw [show FloatKind.f64.format = Ieee.double from rfl]
  unfold Ieee.Format.order
  obtain ⟨m, x, h2, _⟩ := read_fin hm
  rw [read_inf (b := rg b) (by rw [rg_rg]; exact h), h2, sg_rg]
  rfl
 ·rw [decide_eq_false (by omega)]
  unfold fle
  rw [show FloatKind.f64.format = Ieee.double from rfl, order_nan (.inl (by rw [rg_rg]; exact h))]
  rfl
theorem split_word {b : Nat} (h : b < 18446744073709551616) : b = (if sg b then 9223372036854775808 else 0) + rg b := by
 unfold sg rg
 by_cases h1 : b < 9223372036854775808
 ·rw [Nat.div_eq_of_lt h1]; simp; omega
 ·have : b / 9223372036854775808 = 1 := by omega
  rw [this]; simp; omega
theorem wf_word {b : Nat} (h : (Lit.float .f64 b).wf = true) : b < 18446744073709551616 := by
 simpa [Lit.wf] using h
end Go.Proofs.Ytkedejphebfneaa.F
