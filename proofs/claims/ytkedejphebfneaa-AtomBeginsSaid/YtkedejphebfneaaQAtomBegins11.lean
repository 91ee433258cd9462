/- AtomBegins: the row, out of the law's walk and its plain law. -/
import Derived.Test.YtkedejphebfneaaQAtomBegins10
import Derived.Test.YtkedejphebfneaaQAtomBegins2
import Derived.Test.YtkedejphebfneaaQAtomBegins4
import Derived.Lib.Bytealg
import Derived.Test.YtkedejphebfneaaQAtomBegins9
import Derived.Test.YtkedejphebfneaaQAtomBegins5
import Derived.Test.YtkedejphebfneaaRows
import Derived.WalkKit
import Derived.ProofKit
import Derived.OpenShut
import Derived.ShutString
import Derived.ChangeOld
import Derived.Below
import Derived.SizedLaws
section
/- Reals by their bits: their difference, their whole part, a whole number as a real. No program in sight. -/
namespace Go.Proofs.Ytkedejphebfneaa.F
open Go.Proofs.YtkedejphebfneaaW.PrintWords
set_option linter.unusedVariables false
set_option linter.unusedSimpArgs false
theorem cut_none (neg : Bool) (n : Nat) : Ieee.Toward.even.cut neg n 0 = n := by
  unfold Ieee.Toward.cut
  simp [Nat.mod_one]
theorem word_rg (neg : Bool) {r : Nat} (h : r < 9223372036854775808) : rg (Ieee.double.word neg r) = r ∧ sg (Ieee.double.word neg r) = neg := by
  unfold Ieee.Format.word rg sg
  rw [e_sw]
  cases neg
  · simp only [Bool.false_eq_true, if_false]
    rw [Nat.div_eq_of_lt h]
    exact ⟨Nat.mod_eq_of_lt h, rfl⟩
  · simp only [if_true]
    have : (9223372036854775808 + r) / 9223372036854775808 = 1 := by omega
    rw [this]
    exact ⟨by omega, rfl⟩
theorem nearest_pos (neg : Bool) {mag : Nat} {place : Int} (hm : 0 < mag) (hp : -1074 ≤ place) : ∃ r, 0 < r ∧ r ≤ infR ∧ Ieee.double.nearest neg mag place = Ieee.double.word neg r := by
  unfold Ieee.Format.nearest
  rw [if_neg (by omega)]
  refine ⟨_, ?_, Nat.min_le_right _ _, rfl⟩
  rw [e_lp, e_fb, e_bin]
  have hi : (0 : Nat) < infR := by decide
  refine Nat.lt_min.2 ⟨?_, hi⟩
  generalize hl : max (place + (mag.log2 : Int) - (52 : Nat)) (-1074) = last
  by_cases h : last = -1074
  · have e0 : (last - place).toNat = 0 := by omega
    rw [e0, cut_none, Nat.shiftLeft_eq]
    have := Nat.mul_pos hm (Nat.two_pow_pos (place - last).toNat)
    omega
  · have : 1 ≤ (last - -1074).toNat := by omega
    have : 1 * 4503599627370496 ≤ (last - -1074).toNat * 4503599627370496 := Nat.mul_le_mul_right _ this
    omega
/-- How the difference of two finite reals stands to nought. -/
theorem sub_fin {a b : Nat} (ha : rg a < infR) (hb : rg b < infR) : ∃ r, fbits .sub a b = some r ∧ rg r ≤ infR ∧ (rg r = 0 ↔ val a = val b) ∧ (rg r ≠ 0 → sg r = decide (val a < val b)) := by
  obtain ⟨m, e, h1, v1⟩ := read_fin ha
  obtain ⟨n, f, h2, v2⟩ := read_fin hb
  unfold fbits
  simp only []
  rw [show FloatKind.f64.format = Ieee.double from rfl]
  unfold Ieee.Format.sub
  rw [h1, h2]
  simp only [Ieee.Datum.opposite, Ieee.Datum.sum, Option.map_some]
  refine ⟨_, rfl, ?_⟩
  have hb1 : (-1074 + (e : Int) - min (-1074 + (e : Int)) (-1074 + (f : Int))).toNat = e - min e f := by omega
  have hb2 : (-1074 + (f : Int) - min (-1074 + (e : Int)) (-1074 + (f : Int))).toNat = f - min e f := by omega
  rw [hb1, hb2]
  have ht : (Ieee.signed (sg a) m (e - min e f) + Ieee.signed (!sg b) n (f - min e f)) * ((2 ^ min e f : Nat) : Int) = val a - val b := by
    rw [Int.add_mul, scale_one _ _ _ _ (Nat.min_le_left _ _), scale_one _ _ _ _ (Nat.min_le_right _ _), v1, v2]
    unfold val
    cases sg b <;> simp <;> omega
  generalize Ieee.signed (sg a) m (e - min e f) + Ieee.signed (!sg b) n (f - min e f) = t at ht ⊢
  have hp : (0 : Int) < ((2 ^ min e f : Nat) : Int) := by have := Nat.two_pow_pos (min e f); omega
  generalize ((2 ^ min e f : Nat) : Int) = c at ht hp
  have h0 : t = 0 ↔ val a = val b := by
    constructor
    · intro h; rw [h, Int.zero_mul] at ht; omega
    · intro h
      rw [h, Int.sub_self] at ht
      rcases Int.mul_eq_zero.1 ht with h | h
      · exact h
      · omega
  have hn : t < 0 ↔ val a < val b := by
    constructor
    · intro h
      have := Int.mul_neg_of_neg_of_pos h hp
      omega
    · intro h
      rcases Int.lt_trichotomy t 0 with h3 | h3 | h3
      · exact h3
      · rw [h3, Int.zero_mul] at ht; omega
      · have := Int.mul_pos h3 hp; omega
  unfold Ieee.Format.write
  simp only []
  by_cases hz : t = 0
  · have e0 : t.natAbs = 0 := by omega
    rw [e0]
    unfold Ieee.Format.nearest
    rw [if_pos rfl]
    obtain ⟨r1, r2⟩ := word_rg (if t = 0 then sg a && !sg b else decide (t < 0)) (r := 0) (by decide)
    rw [r1]
    exact ⟨Nat.zero_le _, ⟨fun _ => h0.1 hz, fun _ => rfl⟩, fun h => absurd rfl h⟩
  · obtain ⟨r, hr1, hr2, hr3⟩ := nearest_pos (if t = 0 then sg a && !sg b else decide (t < 0)) (mag := t.natAbs) (place := min (-1074 + (e : Int)) (-1074 + (f : Int))) (by omega) (by omega)
    rw [hr3]
    have hi : infR < 9223372036854775808 := by decide
    obtain ⟨r1, r2⟩ := word_rg (if t = 0 then sg a && !sg b else decide (t < 0)) (r := r) (by omega)
    rw [r1, r2]
    refine ⟨hr2, ⟨fun h => by omega, fun h => absurd (h0.2 h) hz⟩, fun _ => ?_⟩
    rw [if_neg hz]
    exact decide_eq_decide.2 hn
/-- Nought against a word that is a number or infinite. -/
theorem flt_zero {r : Nat} (h : rg r ≤ infR) : flt 0 r = (decide (rg r ≠ 0) && !sg r) := by
  rcases Nat.lt_or_ge (rg r) infR with h1 | h1
  · rw [flt_fin rg_zero h1, val_zero]
    by_cases hz : rg r = 0
    · rw [val_eq_zero.2 hz]; simp [hz]
    · have := V_pos (Nat.pos_of_ne_zero hz)
      unfold val
      cases sg r <;> simp [hz] <;> omega
  · have h2 : rg r = infR := by omega
    have h3 : rg r ≠ 0 := by rw [h2]; decide
    unfold flt
    rw [show FloatKind.f64.format = Ieee.double from rfl]
    unfold Ieee.Format.order
    obtain ⟨m, x, h4, _⟩ := read_fin rg_zero
    rw [read_inf h2, h4]
    cases hs : sg r <;> simp [Ieee.Datum.order, h3]
theorem fgt_zero {r : Nat} (h : rg r ≤ infR) : fgt 0 r = (decide (rg r ≠ 0) && sg r) := by
  rcases Nat.lt_or_ge (rg r) infR with h1 | h1
  · rw [fgt_fin rg_zero h1, val_zero]
    by_cases hz : rg r = 0
    · rw [val_eq_zero.2 hz]; simp [hz]
    · have := V_pos (Nat.pos_of_ne_zero hz)
      unfold val
      cases sg r <;> simp [hz] <;> omega
  · have h2 : rg r = infR := by omega
    have h3 : rg r ≠ 0 := by rw [h2]; decide
    unfold fgt
    rw [show FloatKind.f64.format = Ieee.double from rfl]
    unfold Ieee.Format.order
    obtain ⟨m, x, h4, _⟩ := read_fin rg_zero
    rw [read_inf h2, h4]
    cases hs : sg r <;> simp [Ieee.Datum.order, h3]
/-- The difference, as it is held against nought. -/
theorem sub_signs {a b : Nat} (ha : rg a < infR) (hb : rg b < infR) : ∃ r, fbits .sub a b = some r ∧ rg r ≤ infR ∧ flt 0 r = decide (val b < val a) ∧ fgt 0 r = decide (val a < val b) ∧ feq r r = true := by
  obtain ⟨r, h1, h2, h3, h4⟩ := sub_fin ha hb
  refine ⟨r, h1, h2, ?_, ?_, by rw [feq_self, decide_eq_true h2]⟩
  · rw [flt_zero h2]
    by_cases hz : rg r = 0
    · have := h3.1 hz; simp [hz]; omega
    · have hne : val a ≠ val b := fun h => hz (h3.2 h)
      rw [h4 hz]
      by_cases hl : val a < val b
      · simp [hl]; omega
      · simp [hl, hz]; omega
  · rw [fgt_zero h2]
    by_cases hz : rg r = 0
    · have := h3.1 hz; simp [hz]; omega
    · rw [h4 hz]; simp [hz]
/-- One, in the units of the least subnormal number. -/
theorem div_gen (m e d : Nat) (h : d ≤ e) : m * 2 ^ e / 2 ^ d = m * 2 ^ (e - d) := by
  obtain ⟨c, rfl⟩ := Nat.exists_eq_add_of_le h
  rw [Nat.add_sub_cancel_left, Nat.pow_add, Nat.mul_comm (2 ^ d), ← Nat.mul_assoc, Nat.mul_div_cancel _ (Nat.two_pow_pos d)]
def U : Nat := 2 ^ 1074
theorem cut_trunc (neg : Bool) (n drop : Nat) : Ieee.Toward.zero.cut neg n drop = n / 2 ^ drop := by
  unfold Ieee.Toward.cut
  simp only [Bool.toNat_false, Nat.add_zero]
  rw [Nat.shiftLeft_eq, Nat.one_mul]
  rcases Nat.le_total drop (n.log2 + 2) with h | h
  · rw [Nat.min_eq_left h]
  · rw [Nat.min_eq_right h]
    have h1 := Nat.lt_log2_self (n := n)
    have h2 : 2 ^ (n.log2 + 1) ≤ 2 ^ (n.log2 + 2) := Nat.pow_le_pow_right (by decide) (by omega)
    have h3 : 2 ^ (n.log2 + 2) ≤ 2 ^ drop := Nat.pow_le_pow_right (by decide) h
    rw [Nat.div_eq_of_lt (by omega), Nat.div_eq_of_lt (by omega)]
def trunc (f : Nat) : Int := if sg f then -((V (rg f) / U : Nat) : Int) else ((V (rg f) / U : Nat) : Int)
theorem toInt_fin {f : Nat} (h : rg f < infR) : (FloatKind.f64.decode f).toInt .zero = some (trunc f) := by
  obtain ⟨m, e, h1, v1⟩ := read_fin h
  unfold FloatKind.decode
  rw [show FloatKind.f64.format = Ieee.double from rfl, h1]
  unfold Ieee.Datum.toInt
  simp only [Ieee.Datum.integral]
  rw [cut_trunc, signed_eq, Nat.shiftLeft_eq]
  have hq : m * 2 ^ (-1074 + (e : Int)).toNat / 2 ^ (-(-1074 + (e : Int))).toNat = V (rg f) / U := by
    rw [← v1]
    unfold U
    rcases Nat.le_total 1074 e with he | he
    · have e1 : (-1074 + (e : Int)).toNat = e - 1074 := by omega
      have e2 : (-(-1074 + (e : Int))).toNat = 0 := by omega
      rw [e1, e2, Nat.pow_zero, Nat.div_one]
      rw [div_gen m e 1074 he]
    · have e1 : (-1074 + (e : Int)).toNat = 0 := by omega
      have e2 : (-(-1074 + (e : Int))).toNat = 1074 - e := by omega
      rw [e1, e2, Nat.pow_zero, Nat.mul_one]
      have : (2 : Nat) ^ 1074 = 2 ^ (1074 - e) * 2 ^ e := by rw [← Nat.pow_add]; congr 1; omega
      rw [this, Nat.mul_div_mul_right _ _ (Nat.two_pow_pos _)]
  rw [hq]
  unfold trunc
  simp
theorem U_pos : 0 < U := by
  unfold U
  exact Nat.two_pow_pos 1074
theorem V_two63 : V 4890909195324358656 = 9223372036854775808 * U := by decide +kernel
theorem trunc_in {f : Nat} (h1 : val f < 9223372036854775808 * (U : Int)) (h2 : -(9223372036854775808 * (U : Int)) ≤ val f) : -9223372036854775808 ≤ trunc f ∧ trunc f ≤ 9223372036854775807 := by
  have hU := U_pos
  unfold trunc
  unfold val at h1 h2
  cases hs : sg f
  · rw [hs, if_neg (by decide)] at h1 h2
    rw [if_neg (by decide)]
    generalize V (rg f) = v at *
    generalize U = u at *
    have h3 : v < u * 9223372036854775808 := by omega
    have h4 := Nat.div_lt_of_lt_mul h3
    generalize v / u = q at *
    omega
  · rw [hs, if_pos rfl] at h1 h2
    rw [if_pos rfl]
    generalize V (rg f) = v at *
    generalize U = u at *
    have h3 : v < u * 9223372036854775809 := by omega
    have h4 := Nat.div_lt_of_lt_mul h3
    generalize v / u = q at *
    omega
/-- A real that is neither 2^63 or more nor less than -2^63 is a whole number of 64 bits, cut towards nought. -/
theorem int_of {f : Nat} (h : rg f < infR) (h1 : fge f 4890909195324358656 = false) (h2 : flt f 14114281232179134464 = false) : fintv f = some (trunc f) ∧ -9223372036854775808 ≤ trunc f ∧ trunc f ≤ 9223372036854775807 := by
  have a1 : rg 4890909195324358656 < infR := by decide
  have a2 : rg 14114281232179134464 < infR := by decide
  rw [fge_fin h a1] at h1
  rw [flt_fin h a2] at h2
  have h1 := of_decide_eq_false h1
  have h2 := of_decide_eq_false h2
  have b1 : val 4890909195324358656 = 9223372036854775808 * (U : Int) := by
    unfold val
    rw [show sg 4890909195324358656 = false by decide, show rg 4890909195324358656 = 4890909195324358656 by decide, V_two63]
    simp
  have b2 : val 14114281232179134464 = -(9223372036854775808 * (U : Int)) := by
    unfold val
    rw [show sg 14114281232179134464 = true by decide, show rg 14114281232179134464 = 4890909195324358656 by decide, V_two63]
    simp
  rw [b1] at h1
  rw [b2] at h2
  have hb := trunc_in (f := f) (by omega) (by omega)
  refine ⟨?_, hb⟩
  unfold fintv
  simp only [toInt_fin h]
  have m1 : IntKind.i64.min = -9223372036854775808 := by decide +kernel
  have m2 : IntKind.i64.max = 9223372036854775807 := by decide +kernel
  rw [m1, m2, if_pos hb]
theorem cut_le (neg : Bool) (n drop : Nat) (h : drop ≤ n.log2 + 2) : Ieee.Toward.even.cut neg n drop ≤ n / 2 ^ drop + 1 := by
  unfold Ieee.Toward.cut
  simp only []
  rw [Nat.min_eq_left h, Nat.shiftLeft_eq, Nat.one_mul]
  have : ∀ b : Bool, b.toNat ≤ 1 := by decide
  exact Nat.add_le_add_left (this _) _
/-- A whole number of 64 bits is a finite real. -/
theorem real_of {n : Int} (h1 : -9223372036854775808 ≤ n) (h2 : n ≤ 9223372036854775807) : rg (freal n) < infR := by
  unfold freal FloatKind.nearest FloatKind.encode
  rw [show FloatKind.f64.format = Ieee.double from rfl]
  unfold Ieee.Format.write
  simp only []
  generalize hm : n.natAbs = mag
  have hm2 : mag ≤ 9223372036854775808 := by omega
  unfold Ieee.Format.nearest
  by_cases h0 : mag = 0
  · rw [if_pos h0, (word_rg _ (by decide)).1]; decide
  · rw [if_neg h0, e_lp, e_fb, e_bin, e_inf]
    have hlog : mag.log2 ≤ 63 := by
      have : mag.log2 < 64 := (Nat.log2_lt h0).2 (by have : (2 : Nat) ^ 64 = 18446744073709551616 := by decide
                                                     omega)
      omega
    have hself := Nat.lt_log2_self (n := mag)
    simp only []
    have hlast : max ((0 : Int) + (mag.log2 : Int) - (52 : Nat)) (-1074) = (mag.log2 : Int) - 52 := by omega
    rw [hlast]
    have hk : Ieee.Toward.even.cut (decide (n < 0)) (mag <<< ((0 : Int) - ((mag.log2 : Int) - 52)).toNat) (((mag.log2 : Int) - 52) - 0).toNat ≤ 9007199254740992 := by
      rcases Nat.le_total 52 mag.log2 with hl | hl
      · have e1 : ((0 : Int) - ((mag.log2 : Int) - 52)).toNat = 0 := by omega
        have e2 : (((mag.log2 : Int) - 52) - 0).toNat = mag.log2 - 52 := by omega
        rw [e1, e2, Nat.shiftLeft_zero]
        refine Nat.le_trans (cut_le _ _ _ (by omega)) ?_
        have : mag / 2 ^ (mag.log2 - 52) < 9007199254740992 := by
          refine Nat.div_lt_of_lt_mul ?_
          have : 2 ^ (mag.log2 + 1) = 2 ^ (mag.log2 - 52) * 9007199254740992 := by
            rw [show (9007199254740992 : Nat) = 2 ^ 53 by decide, ← Nat.pow_add]; congr 1; omega
          omega
        omega
      · have e1 : ((0 : Int) - ((mag.log2 : Int) - 52)).toNat = 52 - mag.log2 := by omega
        have e2 : (((mag.log2 : Int) - 52) - 0).toNat = 0 := by omega
        rw [e1, e2, cut_none, Nat.shiftLeft_eq]
        have : 2 ^ (mag.log2 + 1) * 2 ^ (52 - mag.log2) = 9007199254740992 := by
          rw [show (9007199254740992 : Nat) = 2 ^ 53 by decide, ← Nat.pow_add]; congr 1; omega
        have := Nat.mul_lt_mul_of_pos_right hself (Nat.two_pow_pos (52 - mag.log2))
        omega
    generalize Ieee.Toward.even.cut (decide (n < 0)) (mag <<< ((0 : Int) - ((mag.log2 : Int) - 52)).toNat) (((mag.log2 : Int) - 52) - 0).toNat = kept at hk
    have ht : ((mag.log2 : Int) - 52 - -1074).toNat ≤ 1085 := by omega
    have hr : min (((mag.log2 : Int) - 52 - -1074).toNat * 4503599627370496 + kept) 9218868437227405312 < infR := by
      refine Nat.lt_of_le_of_lt (Nat.min_le_left _ _) ?_
      have := Nat.mul_le_mul_right 4503599627370496 ht
      unfold infR
      omega
    rw [(word_rg _ (Nat.lt_trans hr (by decide))).1]
    exact hr
theorem feq_zero (r : Nat) : feq r 0 = decide (rg r = 0) := by
  rcases Nat.lt_trichotomy (rg r) infR with h | h | h
  · rw [feq_fin h rg_zero, val_zero]
    exact decide_eq_decide.2 val_eq_zero
  · rw [decide_eq_false (by rw [h]; decide)]
    unfold feq
    rw [show FloatKind.f64.format = Ieee.double from rfl]
    unfold Ieee.Format.order
    obtain ⟨m, x, h4, _⟩ := read_fin rg_zero
    rw [read_inf h, h4]
    cases sg r <;> rfl
  · rw [decide_eq_false (by intro k; rw [k] at h; revert h; decide)]
    unfold feq
    rw [show FloatKind.f64.format = Ieee.double from rfl, order_nan (.inl h)]
    rfl
/-- The difference of a real and itself: nought, if the real is finite; else none, or no number. -/
theorem self_sub (r : Nat) : (rg r < infR ∧ fok .sub r r = true ∧ feq (fval .sub r r) 0 = true) ∨ (infR ≤ rg r ∧ fok .sub r r = false) := by
  rcases Nat.lt_or_ge (rg r) infR with h | h
  · left
    obtain ⟨d, h1, h2, h3, h4⟩ := sub_fin h h
    refine ⟨h, by unfold fok; rw [h1]; rfl, ?_⟩
    have : fval .sub r r = d := by unfold fval; rw [h1]; rfl
    rw [this, feq_zero, decide_eq_true (h3.2 rfl)]
  · right
    refine ⟨h, ?_⟩
    unfold fok fbits
    simp only []
    rw [show FloatKind.f64.format = Ieee.double from rfl]
    unfold Ieee.Format.sub
    rcases Nat.lt_or_ge infR (rg r) with h1 | h1
    · obtain ⟨t, e⟩ := read_nan h1
      rw [e]; rfl
    · rw [read_inf (show rg r = infR by omega)]
      cases sg r <;> rfl
/-- One divided by a nought: infinite, with the nought's sign. -/
theorem one_div {z : Nat} (h : rg z = 0) : ∃ r, fbits .quo 4607182418800017408 z = some r ∧ rg r = infR ∧ sg r = sg z := by
  have h1 : Ieee.double.read 4607182418800017408 = .number false 4503599627370496 (-52) := by decide +kernel
  have hz : rg z < infR := by rw [h]; decide
  obtain ⟨m, e, h2, v2⟩ := read_fin hz
  rw [h, V_zero] at v2
  have hm : m = 0 := by
    rcases Nat.mul_eq_zero.1 v2 with h | h
    · exact h
    · have := Nat.two_pow_pos e; omega
  subst hm
  unfold fbits
  simp only []
  rw [show FloatKind.f64.format = Ieee.double from rfl]
  unfold Ieee.Format.div
  rw [h1, h2]
  simp only [Ieee.Datum.quotient]
  rw [if_pos trivial, if_neg (by decide)]
  refine ⟨_, rfl, ?_⟩
  unfold Ieee.Format.write
  simp only []
  rw [e_inf]
  have := word_rg (false ^^ sg z) (r := 9218868437227405312) (by decide)
  exact ⟨this.1, by rw [this.2]; simp⟩
end Go.Proofs.Ytkedejphebfneaa.F
end
section
/- colonnaderef18.May, its walk by hand: where a Real is infinite, its difference to itself is no number, of whatever bits. -/
namespace Go.Proofs.Ytkedejphebfneaa.Pa
open Go.Proofs.Ytkedejphebfneaa.L Go.Proofs.Ytkedejphebfneaa.F Go.RowKit Go.Proofs.YtkedejphebfneaaW.PrintWords Go.Proofs.YtkedejphebfneaaW.PrintLast Go.Proofs.YtkedejphebfneaaW.PrintMore
attribute [local go_sem] run_store_float cmp_feq cmp_fne cmp_flt cmp_fle cmp_fgt cmp_fge un_fneg equalIn_feq run_fop run_fint run_freal cmp_sgt
set_option linter.unusedVariables false
set_option linter.unusedSimpArgs false
theorem nan_word (t : Nat) : ((t % 2) * 2 ^ 63 + 0x7ff0000000000000 + 1 + (t / 2) % (2 ^ 52 - 1)) % 9223372036854775808 ≠ 0 := by
  have h1 : (t / 2) % (2 ^ 52 - 1) < 2 ^ 52 - 1 := Nat.mod_lt _ (by decide)
  generalize (t / 2) % (2 ^ 52 - 1) = q at h1
  generalize t % 2 = s
  have e : s * 2 ^ 63 + 0x7ff0000000000000 + 1 + q = (0x7ff0000000000000 + 1 + q) + s * 9223372036854775808 := by
    rw [show (2 : Nat) ^ 63 = 9223372036854775808 by decide]
    omega
  rw [e, Nat.add_mul_mod_self_right]
  have h2 : q < 4503599627370495 := h1
  rw [Nat.mod_eq_of_lt (by omega)]
  omega
theorem run_nan_sub (P : Program) (w : World) (t : TypeId) (a b : Nat) (h : fok .sub a b = false) : ∃ c, (binOp .sub t (.float .f64 a) (.float .f64 b)).run P w = .ok (.float .f64 c) w.drew ∧ feq c 0 = false := by
  unfold fok fbits at h
  simp only [Option.isSome_eq_false_iff, Option.isNone_iff_eq_none] at h
  refine ⟨(Question.nanBits .f64 a b).cut (w.tape w.drawn (Question.nanBits .f64 a b)), ?_, ?_⟩
  · simp [binOp, Op.floatArith, h, choose]
    rfl
  · rw [feq_zero]
    exact decide_eq_false (nan_word _)
/-- A zero without a sign. -/
def zeroR (r : Nat) : Bool := feq r 0 && fgt (fval .quo 4607182418800017408 r) 0
/-- May a value be, by the document. -/
def mayR (k i : Int) (r : Nat) (s : ByteArray) : Bool :=
  if k = 0 then (i == 0) && (s.toList.isEmpty) && zeroR r
  else if k = 1 then (s.toList.isEmpty) && zeroR r
  else if k = 2 then (i == 0) && zeroR r && decide (s.size ≤ 65535)
  else if k = 3 then (i == 0) && (s.toList.isEmpty) && fok .sub r r && (!(feq r 0) || zeroR r)
  else false
def colonnaderef18_May.f (a0 a1 : Int) (a2 : Nat) (a3 : ByteArray) : Option Bool := some (mayR a0 a1 a2 a3)
theorem quo_ok {r : Nat} (h : feq r 0 = true) : fok .quo 4607182418800017408 r = true := by
  rw [feq_zero] at h
  obtain ⟨d, h1, _⟩ := one_div (of_decide_eq_true h)
  unfold fok
  rw [h1]; rfl
theorem ret_bool {a b : Bool} (h : a = b) : Ending.returned (.bool a) = .returned (.bool b) := by rw [h]
set_option maxHeartbeats 8000000 in
theorem colonnaderef18_May.calls (a0_0 : Int) (a0_1 : Int) (a0_2 : Nat) (a0_3 : ByteArray) (r : Bool) (w : World) (h : colonnaderef18_May.f a0_0 a0_1 a0_2 a0_3 = some r) :
    Calls Try.prog 50 #[.agg #[.int .i64 a0_0, .int .i64 a0_1, .float .f64 a0_2, .string a0_3]] w fun e w' => e = .returned (.bool r) ∧ Below w.heap.size w w' := by
  obtain rfl : mayR a0_0 a0_1 a0_2 a0_3 = r := Option.some.inj h
  clear h
  have hq : feq a0_2 0 = true → fok .quo 4607182418800017408 a0_2 = true := quo_ok
  by_cases hz : feq a0_2 0 = true
  · have hz1 := hq hz
    have hs : fok .sub a0_2 a0_2 = true ∧ feq (fval .sub a0_2 a0_2) 0 = true := by
      rcases self_sub a0_2 with h | h
      · exact h.2
      · rw [feq_zero] at hz
        have := of_decide_eq_true hz
        have h3 : infR ≤ 0 := this ▸ h.1
        exact absurd h3 (by decide)
    obtain ⟨hs1, hs2⟩ := hs
    have M : mayR a0_0 a0_1 a0_2 a0_3 = (if a0_0 = 0 then (a0_1 == 0) && (a0_3.toList.isEmpty) && fgt (fval .quo 4607182418800017408 a0_2) 0 else if a0_0 = 1 then (a0_3.toList.isEmpty) && fgt (fval .quo 4607182418800017408 a0_2) 0 else if a0_0 = 2 then (a0_1 == 0) && fgt (fval .quo 4607182418800017408 a0_2) 0 && decide (a0_3.size ≤ 65535) else if a0_0 = 3 then (a0_1 == 0) && (a0_3.toList.isEmpty) && fgt (fval .quo 4607182418800017408 a0_2) 0 else false) := by
      unfold mayR zeroR; rw [hz, hs1]; simp
    rw [M]
    clear M hq
    go_enter Try.func50, Try.ntmps50
    go_wp2_with (fail)
    all_goals (go_ret; exact ⟨ret_bool (by simp_all <;> omega), by first | exact below_alloc (Below.refl _ _) _ | exact below_drew (below_alloc (Below.refl _ _) _)⟩)
  · replace hz : feq a0_2 0 = false := by simpa using hz
    rcases self_sub a0_2 with ⟨_, hs1, hs2⟩ | ⟨_, hs1⟩
    · have M : mayR a0_0 a0_1 a0_2 a0_3 = (if a0_0 = 3 then (a0_1 == 0) && (a0_3.toList.isEmpty) else false) := by
        unfold mayR zeroR; rw [hz, hs1]
        by_cases h3 : a0_0 = 3
        · subst h3; simp
        · simp [h3]
      rw [M]
      clear M hq
      go_enter Try.func50, Try.ntmps50
      go_wp2_with (fail)
      all_goals (go_ret; exact ⟨ret_bool (by simp_all <;> omega), by first | exact below_alloc (Below.refl _ _) _ | exact below_drew (below_alloc (Below.refl _ _) _)⟩)
    · have M : mayR a0_0 a0_1 a0_2 a0_3 = false := by
        unfold mayR zeroR; rw [hz, hs1]; simp
      rw [M]
      clear M hq
      by_cases h1 : a0_1 = 0
      · subst h1
        obtain ⟨cn, hrun, hcn⟩ := run_nan_sub Try.prog (w.alloc (.cells #[.int .i64 a0_0, .int .i64 0, .float .f64 a0_2, .string a0_3] 28)) 26 a0_2 a0_2 hs1
        go_enter Try.func50, Try.ntmps50
        go_wp2_with (fail)
        all_goals (go_ret; exact ⟨ret_bool (by simp_all <;> omega), by first | exact below_alloc (Below.refl _ _) _ | exact below_drew (below_alloc (Below.refl _ _) _)⟩)
      · have h1b : (a0_1 == 0) = false := by simpa using h1
        go_enter Try.func50, Try.ntmps50
        go_wp2_with (fail)
        all_goals (go_ret; exact ⟨ret_bool (by simp_all <;> omega), by first | exact below_alloc (Below.refl _ _) _ | exact below_drew (below_alloc (Below.refl _ _) _)⟩)
end Go.Proofs.Ytkedejphebfneaa.Pa
end
section
/- May a value be: the program's answer and the document's are one. Plain: no program in sight. -/
namespace Go.Proofs.Ytkedejphebfneaa.V
open Go.RowKit Go.Proofs.Ytkedejphebfneaa.Pa Go.Proofs.Ytkedejphebfneaa.L Go.Proofs.Ytkedejphebfneaa.F Go.Proofs.YtkedejphebfneaaW.PrintWords Go.Proofs.YtkedejphebfneaaW.PrintLast Go.Proofs.YtkedejphebfneaaW.PrintMore
set_option linter.unusedVariables false
set_option linter.unusedSimpArgs false
theorem evn_of {α : Type} {g : Nat → Option α} {r : α} (h : ∀ k, LeO (g k) (g (k + 1))) (k0 : Nat) (e : g k0 = some r) : Evn g r :=
  ⟨k0, fun k hk => at_rounds h hk e⟩
theorem abs_bits {r : Nat} (h : r < 18446744073709551616) : (Go.bits .andNot .u64 (r : Int) 9223372036854775808).toNat = rg r := by
  have e : (~~~(BitVec.ofInt 64 9223372036854775808)).toNat = 9223372036854775807 := by decide +kernel
  have h1 : Go.bits .andNot .u64 (r : Int) 9223372036854775808 = IntKind.u64.wrap (((BitVec.ofInt 64 (r : Int)) &&& ~~~(BitVec.ofInt 64 9223372036854775808)).toNat : Int) := rfl
  rw [h1, BitVec.toNat_and, e, BitVec.ofInt_natCast, BitVec.toNat_ofNat, Nat.mod_eq_of_lt (show r < 2 ^ 64 from h), show (9223372036854775807 : Nat) = 2 ^ 63 - 1 by decide, Nat.and_two_pow_sub_one_eq_mod]
  have h2 : r % 2 ^ 63 < 9223372036854775808 := Nat.mod_lt _ (by decide)
  rw [u64_in (by omega) (by omega)]
  rfl
/-- A value that may be. -/
def mayS (k i : Int) (r : Nat) (s : ByteArray) : Bool :=
  decide ((k = 0 ∧ i = 0 ∧ s.toList = [] ∧ r = 0) ∨ (k = 1 ∧ s.toList = [] ∧ r = 0) ∨ (k = 2 ∧ i = 0 ∧ s.size ≤ 65535 ∧ r = 0) ∨ (k = 3 ∧ i = 0 ∧ s.toList = [] ∧ rg r < infR ∧ r ≠ 9223372036854775808))
theorem zeroR_eq {r : Nat} (h : r < 18446744073709551616) : zeroR r = decide (r = 0) := by
  unfold zeroR
  rw [feq_zero]
  by_cases hz : rg r = 0
  · obtain ⟨d, h1, h2, h3⟩ := one_div hz
    have hv : fval .quo 4607182418800017408 r = d := by unfold fval; rw [h1]; rfl
    rw [hv, decide_eq_true hz, Bool.true_and]
    have h4 : fgt d 0 = !sg d := by
      unfold fgt
      rw [show FloatKind.f64.format = Ieee.double from rfl]
      unfold Ieee.Format.order
      obtain ⟨m, x, h5, _⟩ := read_fin rg_zero
      rw [read_inf h2, h5]
      cases sg d <;> rfl
    rw [h4, h3]
    have hs := split_word h
    rw [hz] at hs
    cases hq : sg r
    · rw [hq] at hs
      simp at hs
      simp [hs]
    · rw [hq] at hs
      simp at hs
      simp; omega
  · rw [decide_eq_false hz, Bool.false_and]
    refine (decide_eq_false ?_).symm
    intro e
    rw [e] at hz
    exact hz rfl
theorem rg_big {r : Nat} (h : r < 18446744073709551616) : (rg r = 0 ↔ r = 0 ∨ r = 9223372036854775808) := by
  unfold rg
  omega
theorem fok_self (r : Nat) : fok .sub r r = decide (rg r < infR) := by
  rcases self_sub r with ⟨h1, h2, _⟩ | ⟨h1, h2⟩
  · rw [h2, decide_eq_true h1]
  · rw [h2, decide_eq_false (by omega)]
theorem size_nil {s : ByteArray} (h : s.toList = []) : s.size = 0 := by
  have := congrArg List.length h
  rw [ByteArray.toList_eq] at this
  simpa using this
theorem mayR_eq (k i : Int) {r : Nat} (s : ByteArray) (h : r < 18446744073709551616) : mayR k i r s = mayS k i r s := by
  unfold mayR mayS
  rw [zeroR_eq h, fok_self, feq_zero]
  have hb := rg_big h
  rw [Bool.eq_iff_iff]
  by_cases h0 : k = 0
  · subst h0; simp [List.isEmpty_iff, and_assoc]
  by_cases h1 : k = 1
  · subst h1; simp [List.isEmpty_iff, and_assoc]
  by_cases h2 : k = 2
  · subst h2
    simp [List.isEmpty_iff, and_assoc]
    exact fun _ => ⟨fun a => ⟨a.2, a.1⟩, fun a => ⟨a.2, a.1⟩⟩
  by_cases h3 : k = 3
  · subst h3
    rw [if_neg (by decide), if_neg (by decide), if_neg (by decide), if_pos rfl]
    simp [List.isEmpty_iff]
    constructor
    · rintro ⟨⟨⟨a, b⟩, c⟩, d⟩
      refine ⟨a, b, c, ?_⟩
      intro e
      rcases d with d | d
      · exact d (hb.2 (Or.inr e))
      · omega
    · rintro ⟨a, b, c, d⟩
      refine ⟨⟨⟨a, b⟩, c⟩, ?_⟩
      by_cases e : r = 0
      · exact Or.inr e
      · exact Or.inl (fun z => by rcases hb.1 z with z | z <;> omega)
  · rw [if_neg h0, if_neg h1, if_neg h2, if_neg h3]
    simp [h0, h1, h2, h3]
theorem may_f (k i : Int) {r : Nat} (s : ByteArray) (h : r < 18446744073709551616) : Evn (fun n => value_May.f n k i r s) (mayS k i r s) := by
  refine evn_of (fun n => value_May.mono _ _ _ _ _) 3 ?_
  have hab : math_Abs.f r = some (rg r) := by unfold math_Abs.f; rw [abs_bits h]
  have hne : ((r : Int) != 9223372036854775808) = decide (r ≠ 9223372036854775808) := by
    rw [Bool.eq_iff_iff]; simp; omega
  unfold value_May.f
  simp only [value_May.j0, value_May.j1, hab, Option.bind_some, fle_max, hne]
  have hr0 : ((r : Int) = 0) = (r = 0) := by simp
  simp only [hr0]
  unfold mayS
  by_cases h3 : k = 3
  · subst h3
    by_cases hi : i = 0 <;> by_cases hs : s.toList = [] <;> by_cases hf : rg r < infR <;> simp [hi, hs, hf]
  · by_cases h2 : k = 2
    · subst h2
      by_cases hi : i = 0 <;> by_cases hs : s.toList = [] <;> by_cases hr : r = 0 <;> by_cases hsz : s.size ≤ 65535 <;> simp [hi, hs, hr, hsz] <;> (first | omega | (have := size_nil ‹_›; omega) | skip)
    · by_cases h1 : k = 1
      · subst h1
        by_cases hi : i = 0 <;> by_cases hs : s.toList = [] <;> by_cases hr : r = 0 <;> simp [hi, hs, hr]
      · by_cases h0 : k = 0
        · subst h0
          by_cases hi : i = 0 <;> by_cases hs : s.toList = [] <;> by_cases hr : r = 0 <;> simp [hi, hs, hr]
        · by_cases hi : i = 0 <;> by_cases hs : s.toList = [] <;> by_cases hr : r = 0 <;> simp [hi, hs, hr, h3, h2, h1, h0] <;> omega
end Go.Proofs.Ytkedejphebfneaa.V
end
section
/- The order of values: the program's and the document's are one. Plain: no program in sight. -/
namespace Go.Proofs.Ytkedejphebfneaa.V
open Go.RowKit Go.Proofs.Ytkedejphebfneaa.Pa Go.Proofs.Ytkedejphebfneaa.L Go.Proofs.Ytkedejphebfneaa.F Go.Proofs.YtkedejphebfneaaW.PrintWords Go.Proofs.YtkedejphebfneaaW.PrintLast Go.Proofs.YtkedejphebfneaaW.PrintMore
set_option linter.unusedVariables false
set_option linter.unusedSimpArgs false
def sgI (x y : Int) : Int := if x < y then -1 else if y < x then 1 else 0
/-- A whole number against a real. -/
def agS (i : Int) (f : Nat) : Int := if fge f 4890909195324358656 = true then -1 else if flt f 14114281232179134464 = true then 1 else if i ≠ trunc f then sgI i (trunc f) else sgI (val (freal (trunc f))) (val f)
def mxS (i : Int) (f : Nat) : Int := if agS i f = 0 then -1 else agS i f
def clS (k i : Int) (r : Nat) (s : ByteArray) : Int := if mayS k i r s = true then (if k = 0 then 1 else if k = 2 then 3 else 2) else 0
/-- The order of values. -/
def cmpS (k i : Int) (r : Nat) (s : ByteArray) (k' i' : Int) (r' : Nat) (s' : ByteArray) : Int :=
  if clS k i r s ≠ clS k' i' r' s' then sgI (clS k i r s) (clS k' i' r' s') else if clS k i r s < 2 then 0 else if k = 2 then cmpb s s'
  else if k = 1 ∧ k' = 1 then sgI i i' else if k = 3 ∧ k' = 3 then sgI (val r) (val r') else if k = 1 then mxS i r' else -mxS i' r
theorem cmp_int (a b : Int) : cmp_Compare_int.f a b = some (sgI a b) := by
  unfold cmp_Compare_int.f cmp_isNaN_int.f sgI
  simp
  by_cases h : a < b <;> by_cases h2 : b < a <;> simp [h, h2]
theorem cmp_int64 (a b : Int) : cmp_Compare_int64.f a b = some (sgI a b) := by
  unfold cmp_Compare_int64.f cmp_isNaN_int64.f sgI
  simp
  by_cases h : a < b <;> by_cases h2 : b < a <;> simp [h, h2]
theorem cmp_real {a b : Nat} (ha : rg a < infR) (hb : rg b < infR) : cmp_Compare_float64.f a b = some (sgI (val a) (val b)) := by
  unfold cmp_Compare_float64.f cmp_isNaN_float64.f sgI
  rw [feq_fin ha ha, feq_fin hb hb, flt_fin ha hb, fgt_fin ha hb]
  simp
  by_cases h : val a < val b <;> by_cases h2 : val b < val a <;> simp [h, h2]
theorem sgI_range (a b : Int) : sgI a b = -1 ∨ sgI a b = 0 ∨ sgI a b = 1 := by unfold sgI; split; simp; split <;> simp
theorem sgI_zero (a b : Int) : sgI a b = 0 ↔ a = b := by unfold sgI; split; omega; split <;> omega
theorem agS_range (i : Int) (f : Nat) : agS i f = -1 ∨ agS i f = 0 ∨ agS i f = 1 := by
  unfold agS
  split; simp
  split; simp
  split <;> exact sgI_range _ _
theorem feq_zz : feq 0 0 = true := by decide +kernel
theorem against_f (i : Int) {f : Nat} (hf : rg f < infR) : value_against.f i f = some (agS i f) := by
  unfold value_against.f agS
  by_cases h1 : fge f 4890909195324358656 = true
  · rw [if_pos h1, if_pos h1]
  rw [if_neg h1, if_neg h1]
  by_cases h2 : flt f 14114281232179134464 = true
  · rw [if_pos h2, if_pos h2]
  rw [if_neg h2, if_neg h2]
  obtain ⟨e, l1, l2⟩ := int_of hf (by simpa using h1) (by simpa using h2)
  have hk : fintok f = true := by unfold fintok; rw [e]; rfl
  have hv : fint f = trunc f := by unfold fint; rw [e]; rfl
  rw [if_pos hk, hv, cmp_int64, Option.bind_some]
  by_cases h3 : i ≠ trunc f
  · rw [if_pos h3, if_neg (fun q => h3 ((sgI_zero _ _).1 q))]
  · rw [if_neg h3, if_pos ((sgI_zero _ _).2 (by simpa using h3))]
    obtain ⟨r, s1, s2, s3, s4, s5⟩ := sub_signs hf (real_of l1 l2)
    have hk2 : fok .sub f (freal (trunc f)) = true := by unfold fok; rw [s1]; rfl
    have hv2 : fval .sub f (freal (trunc f)) = r := by unfold fval; rw [s1]; rfl
    rw [if_pos hk2, hv2]
    unfold cmp_Compare_float64.f cmp_isNaN_float64.f sgI
    rw [feq_zz, s5, s3, s4]
    simp
    by_cases h : val (freal (trunc f)) < val f <;> by_cases h2 : val f < val (freal (trunc f)) <;> simp [h, h2]
theorem or_f (a b : Int) (hb : b ≠ 0) : Evn (fun k => cmp_Or_int.f k [a, b]) (if a = 0 then b else a) := by
  unfold cmp_Or_int.f
  refine Evn.succ (fun k => by rw [cmp_Or_int.l0]) ?_
  refine Evn.pos (by simp) (Evn.pos (by decide) (Evn.pos (by simp) ?_))
  have e0 : rd [a, b] 0 = a := rfl
  have ew : wrap64 (0 + 1) = 1 := wrap64_in (by omega) (by omega)
  have e1 : rd [a, b] 1 = b := rfl
  rw [e0]
  by_cases h : a = 0
  · rw [if_pos h]
    refine Evn.pos h ?_
    rw [ew]
    refine Evn.succ (fun k => by rw [cmp_Or_int.l0]) ?_
    refine Evn.pos (by simp) ?_
    refine Evn.pos (by decide) ?_
    refine Evn.pos (by simp) ?_
    rw [e1]
    exact Evn.neg hb (Evn.now _)
  · rw [if_neg h]
    exact Evn.neg h (Evn.now _)
theorem class_f (k i : Int) {r : Nat} (s : ByteArray) (h : r < 18446744073709551616) : Evn (fun n => value_class.f n k i r s) (clS k i r s) := by
  unfold value_class.f clS
  refine Evn.bind (may_f k i s h) ?_
  by_cases hm : mayS k i r s = true
  · refine Evn.pos hm ?_
    rw [if_pos hm]
    by_cases h0 : k = 0
    · refine Evn.pos h0 ?_
      rw [if_pos h0]; exact Evn.now _
    · refine Evn.neg h0 ?_
      rw [if_neg h0]
      by_cases h2 : k = 2
      · refine Evn.pos h2 ?_
        rw [if_pos h2]; exact Evn.now _
      · refine Evn.neg h2 ?_
        rw [if_neg h2]; exact Evn.now _
  · refine Evn.neg hm ?_
    rw [if_neg hm]; exact Evn.now _
/-- What is of the class of numbers is a whole number or a finite real. -/
theorem class_two {k i : Int} {r : Nat} {s : ByteArray} (h : clS k i r s = 2) : k = 1 ∨ (k = 3 ∧ rg r < infR) := by
  unfold clS mayS at h
  split at h
  · rename_i hm
    have := of_decide_eq_true hm
    rcases this with q | q | q | q
    · rw [if_pos q.1] at h; omega
    · exact Or.inl q.1
    · rw [if_neg (by omega), if_pos q.1] at h; omega
    · exact Or.inr ⟨q.1, q.2.2.2.1⟩
  · omega
theorem class_three {k i : Int} {r : Nat} {s : ByteArray} (h : clS k i r s = 3) : k = 2 := by
  unfold clS at h
  split at h
  · split at h
    · omega
    · split at h
      · assumption
      · omega
  · omega
theorem class_range (k i : Int) (r : Nat) (s : ByteArray) : clS k i r s = 0 ∨ clS k i r s = 1 ∨ clS k i r s = 2 ∨ clS k i r s = 3 := by
  unfold clS
  split
  · split; simp
    split <;> simp
  · simp
theorem compare_f (k i : Int) {r : Nat} (s : ByteArray) (k' i' : Int) {r' : Nat} (s' : ByteArray) (h : r < 18446744073709551616) (h' : r' < 18446744073709551616) : Evn (fun n => value_Compare.f n k i r s k' i' r' s') (cmpS k i r s k' i' r' s') := by
  unfold value_Compare.f cmpS
  refine Evn.bind (class_f k i s h) (Evn.bind (class_f k' i' s' h') ?_)
  rw [cmp_int]
  simp only [Option.bind_some]
  by_cases hne : clS k i r s ≠ clS k' i' r' s'
  · rw [if_pos hne]
    exact Evn.neg (fun q => hne ((sgI_zero _ _).1 q)) (Evn.now _)
  rw [if_neg hne]
  have he : clS k i r s = clS k' i' r' s' := by simpa using hne
  refine Evn.pos ((sgI_zero _ _).2 he) (Evn.bind (class_f k i s h) ?_)
  by_cases hlt : clS k i r s < 2
  · rw [if_pos hlt]; exact Evn.pos hlt (Evn.now _)
  rw [if_neg hlt]
  refine Evn.neg hlt ?_
  by_cases h2 : k = 2
  · rw [if_pos h2]
    exact Evn.pos h2 (Evn.congr (fun _ => rfl) (Evn.now _))
  rw [if_neg h2]
  refine Evn.neg h2 ?_
  have hc : clS k i r s = 2 := by
    rcases class_range k i r s with q | q | q | q
    · omega
    · omega
    · exact q
    · exact absurd (class_three q) h2
  have c1 := class_two hc
  have c2 := class_two (he ▸ hc)
  rcases c1 with rfl | ⟨rfl, f1⟩
  · rcases c2 with rfl | ⟨rfl, f2⟩
    · rw [if_pos ⟨rfl, rfl⟩]
      refine Evn.pos rfl ?_
      refine Evn.succ (fun n => by rw [value_Compare.j0]) ?_
      refine Evn.pos rfl ?_
      rw [cmp_int64]
      exact Evn.now _
    · rw [if_neg (by omega), if_neg (by omega), if_pos rfl]
      refine Evn.pos rfl ?_
      refine Evn.succ (fun n => by rw [value_Compare.j0]) ?_
      refine Evn.neg (by decide) ?_
      refine Evn.neg (by decide) ?_
      refine Evn.succ (fun n => by rw [value_Compare.j1]) ?_
      refine Evn.neg (by decide) ?_
      refine Evn.pos rfl ?_
      rw [against_f i f2]
      simp only [Option.bind_some]
      exact Evn.bind (or_f _ _ (by decide)) (Evn.now _)
  · rcases c2 with rfl | ⟨rfl, f2⟩
    · rw [if_neg (by omega), if_neg (by omega), if_neg (by decide)]
      refine Evn.neg (by decide) ?_
      refine Evn.succ (fun n => by rw [value_Compare.j0]) ?_
      refine Evn.neg (by decide) ?_
      refine Evn.pos rfl ?_
      refine Evn.succ (fun n => by rw [value_Compare.j1]) ?_
      refine Evn.neg (by decide) ?_
      refine Evn.neg (by decide) ?_
      rw [against_f i' f1]
      simp only [Option.bind_some]
      have e : -mxS i' r = if wrap64 (-agS i' r) = 0 then 1 else wrap64 (-agS i' r) := by
        unfold mxS
        rcases agS_range i' r with q | q | q <;> rw [q] <;> simp [wrap64_in]
      rw [e]
      exact Evn.bind (or_f _ _ (by decide)) (Evn.now _)
    · rw [if_neg (by omega), if_pos ⟨rfl, rfl⟩]
      refine Evn.neg (by decide) ?_
      refine Evn.succ (fun n => by rw [value_Compare.j0]) ?_
      refine Evn.neg (by decide) ?_
      refine Evn.pos rfl ?_
      refine Evn.succ (fun n => by rw [value_Compare.j1]) ?_
      refine Evn.pos rfl ?_
      rw [cmp_real f1 f2]
      exact Evn.now _
end Go.Proofs.Ytkedejphebfneaa.V
end
section
-- Written by xprint.py, a program of this session, over the kit's print. Not trusted: Lean checks it.
namespace Go.Proofs.Ytkedejphebfneaa.Pa
open Go.RowKit Go.Proofs.YtkedejphebfneaaW.PrintWords Go.Proofs.YtkedejphebfneaaW.PrintLast Go.Proofs.YtkedejphebfneaaW.PrintMore
attribute [local go_sem] max2_int min2_int max_two min_two max_three min_three max_four min_four   -- for this text's walks alone
attribute [local go_sem] run_store_float cmp_feq cmp_fne cmp_flt cmp_fle cmp_fgt cmp_fge un_fneg equalIn_feq run_fop run_fint run_freal cmp_sgt ext_bits ext_frombits ext_cmpb
set_option linter.unusedVariables false
set_option linter.unusedSimpArgs false

/-! ### colonnadelaw18_values: function 33 -/
def colonnadelaw18_values.f (l0 : List (S28)) : Option ((List (S28))) := if ([] : List (S28)).length + l0.length < 3518437208883 then (some (([] : List (S28)) ++ l0)) else (none)
set_option maxHeartbeats 8000000 in
set_option maxRecDepth 100000 in
theorem colonnadelaw18_values.calls (A0 : Option Addr) (c0 : Nat) (l0 : List (S28)) (r : List (S28)) (w : World) (hr0 : Kd.C k28 w A0 l0.length l0) (hc0 : l0.length ≤ c0) (h : colonnadelaw18_values.f l0 = some r) :
    Calls Try.prog 33 #[.slice A0 l0.length c0] w fun e w' => ∃ v0_ : Value, e = .returned (v0_) ∧ Kd.R k28 28 w' w.heap.size (fun _ => True) v0_ r ∧ Below w.heap.size w w' := by
  have HR0 := Aside0.mk hr0
  have HC0 := Aside0.mk hc0
  clear hr0 hc0
  have HB := Aside0.mk (Below.refl w.heap.size w)
  have H : (if ([] : List (S28)).length + l0.length < 3518437208883 then (some (([] : List (S28)) ++ l0)) else (none)) = some r := h
  clear h
  by_cases c2 : ([] : List (S28)).length + l0.length < 3518437208883
  · rw [if_pos c2] at H
    have LMc2 := Aside0.mk c2
    clear c2
    obtain ⟨y224, hy224⟩ : ∃ y_ : List (S28), y_ = (([] : List (S28)) ++ l0) := ⟨_, rfl⟩
    replace H : (some y224) = some r := by first | (rw [hy224]; with_reducible exact H) | (have H2_ := (Option.bind_some _ _).symm.trans H; rw [hy224]; with_reducible exact H2_) | (have H2_ := (Option.bind_some _ _).symm.trans H; with_reducible exact H2_) | with_reducible exact H | (rw [hy224]; exact H) | exact H
    have Ny224 := Aside0.mk hy224
    clear hy224
    obtain rfl := Option.some.inj H
    go_enter Try.func33, Try.ntmps33
    go_wp2_with (first | ((with_reducible refine gate_builtin (b := .append) (xs := #[.tmp 4, .tmp 5]) rfl ?_); at_builtin; refine Kd.R_append_rows k28 (w0 := w) w.heap.size rfl (.tmp 4) (.tmp 5) 25 28 (.agg #[(.int .i64 0), (.int .i64 0), (.float .f64 0), (.string ⟨#[]⟩)]) 40 rfl Try.underlying25 info28 rfl (by decide) (by omega) (.slice none 0 0) ([] : List (S28)) l0 _ _ _ (fun _ => True) (fun _ => False) rfl rfl ?aO ?aR (fun _ _ h => h) (fun _ h => h.elim) ?aF ?aB ?aS ?aL ?_; (case aR => repeat (first | exact HR0.out | (with_reducible refine Kd.C_alloc ?_ _) | (with_reducible refine Kd.C_drewN ?_ _) | (with_reducible refine Kd.C_drew ?_))); (case aB => exact (by repeat (first | (with_reducible first | exact HB.out | apply below_alloc | apply pw_below_drewN | apply below_drew1) | exact HB.out))); (case aF => exact (fun _ _ => trivial)); (case aO => exact ((Kd.R_nil _ _ _ _ (fun _ => True)))); (case aS => exact (below_size (by repeat (first | (with_reducible first | exact HB.out | apply below_alloc | apply pw_below_drewN | apply below_drew1) | exact HB.out)))); (case aL => have := LMc2.out; omega); intro v225 w3 ho hb hg hat; rw [← Ny224.out] at ho; have n0_ := Aside0.mk (hb); have n1_ := Aside0.mk (ho); clear HB; have HB := n0_; have HO226 := n1_; clear n0_ n1_; clear ho hb hg hat))
    go_ret
    exact ⟨_, by first | rfl | (simp [errW_none, errW_some] <;> rfl) | (simp [*, errW_none, errW_some] <;> rfl), by (with_reducible repeat (first | apply Kd.R_alloc | apply Kd.R_drewN | apply Kd.R_drew)); exact HO226.out, by repeat (first | (with_reducible first | exact HB.out | apply below_alloc | apply pw_below_drewN | apply below_drew1) | exact HB.out)⟩
  · rw [if_neg c2] at H
    exact absurd H (by simp)

/-! ### colonnadelaw18_twin: function 18 -/
def colonnadelaw18_twin.f (a0_0 : Int) (a0_1 : ByteArray) (a0_2 : Int) (a0_3 : Int) (a0_4 : Int) (a0_5 : Nat) (a0_6 : ByteArray) (l0_7 : List (S28)) (l0_8 : List (S32)) : Option (Int × ByteArray × Int × Int × Int × Nat × ByteArray × (List (S28)) × (List (S32))) := (colonnadelaw18_values.f l0_7).bind fun t229 => (if ([] : List (S32)).length + l0_8.length < 1172812402961 then (some (a0_0, a0_1, a0_2, a0_3, a0_4, a0_5, a0_6, t229, (([] : List (S32)) ++ l0_8))) else (none))
set_option maxHeartbeats 8000000 in
set_option maxRecDepth 100000 in
theorem colonnadelaw18_twin.calls (a0_0 : Int) (a0_1 : ByteArray) (a0_2 : Int) (a0_3 : Int) (a0_4 : Int) (a0_5 : Nat) (a0_6 : ByteArray) (A0_7 : Option Addr) (c0_7 : Nat) (l0_7 : List (S28)) (P0_8_ : Nat → Prop) (A0_8 : Option Addr) (c0_8 : Nat) (l0_8 : List (S32)) (r1 : Int) (r2 : ByteArray) (r3 : Int) (r4 : Int) (r5 : Int) (r6 : Nat) (r7 : ByteArray) (r8 : List (S28)) (r9 : List (S32)) (w : World) (hr0_7 : Kd.C k28 w A0_7 l0_7.length l0_7) (hc0_7 : l0_7.length ≤ c0_7) (hs0_8 : Kd.V k32 32 w w.heap.size (fun k_ => P0_8_ k_) (.slice A0_8 l0_8.length c0_8) l0_8) (h : colonnadelaw18_twin.f a0_0 a0_1 a0_2 a0_3 a0_4 a0_5 a0_6 l0_7 l0_8 = some (r1, r2, r3, r4, r5, r6, r7, r8, r9)) :
    Calls Try.prog 18 #[.agg #[.int .i64 a0_0, .string a0_1, .int .i64 a0_2, .int .i64 a0_3, .int .i64 a0_4, .float .f64 a0_5, .string a0_6, .slice A0_7 l0_7.length c0_7, .slice A0_8 l0_8.length c0_8]] w fun e w' => ∃ v7_ v8_ : Value, e = .returned (.agg #[.int .i64 r1, .string r2, .int .i64 r3, .int .i64 r4, .int .i64 r5, .float .f64 r6, .string r7, v7_, v8_]) ∧ Kd.R k28 28 w' w.heap.size (fun k_ => (w.heap.size ≤ k_)) v7_ r8 ∧ Kd.N k32 32 w' w.heap.size (fun k_ => (P0_8_ k_ ∨ w.heap.size ≤ k_) ∧ some k_ ≠ (v7_ : Value).ownBlock) v8_ r9 ∧ Below w.heap.size w w' := by
  have hu32 := Try.underlying32
  have HR0_7 := Aside0.mk hr0_7
  have HC0_7 := Aside0.mk hc0_7
  clear hr0_7 hc0_7
  have HO0_8 := Aside0.mk (show Kd.V k32 32 w w.heap.size (fun k_ => (P0_8_ k_ ∨ w.heap.size ≤ k_)) (.slice A0_8 l0_8.length c0_8) l0_8 from Kd.V_mono hs0_8 (fun k_ hk => .inl hk))
  have HB := Aside0.mk (Below.refl w.heap.size w)
  have H : ((colonnadelaw18_values.f l0_7).bind fun t229 => (if ([] : List (S32)).length + l0_8.length < 1172812402961 then (some (a0_0, a0_1, a0_2, a0_3, a0_4, a0_5, a0_6, t229, (([] : List (S32)) ++ l0_8))) else (none))) = some (r1, r2, r3, r4, r5, r6, r7, r8, r9) := h
  clear h
  replace H := Option.bind_eq_some_iff.mp H
  obtain ⟨t229, A20, H⟩ := H
  replace H : (if ([] : List (S32)).length + l0_8.length < 1172812402961 then (some (a0_0, a0_1, a0_2, a0_3, a0_4, a0_5, a0_6, t229, (([] : List (S32)) ++ l0_8))) else (none)) = some (r1, r2, r3, r4, r5, r6, r7, r8, r9) := H
  have A2 := Aside0.mk A20
  clear A20
  by_cases c3 : ([] : List (S32)).length + l0_8.length < 1172812402961
  · rw [if_pos c3] at H
    have LMc3 := Aside0.mk c3
    clear c3
    obtain ⟨y232, hy232⟩ : ∃ y_ : List (S32), y_ = (([] : List (S32)) ++ l0_8) := ⟨_, rfl⟩
    replace H : (some (a0_0, a0_1, a0_2, a0_3, a0_4, a0_5, a0_6, t229, y232)) = some (r1, r2, r3, r4, r5, r6, r7, r8, r9) := by first | (rw [hy232]; with_reducible exact H) | (have H2_ := (Option.bind_some _ _).symm.trans H; rw [hy232]; with_reducible exact H2_) | (have H2_ := (Option.bind_some _ _).symm.trans H; with_reducible exact H2_) | with_reducible exact H | (rw [hy232]; exact H) | exact H
    have Ny232 := Aside0.mk hy232
    clear hy232
    simp only [Option.some.injEq, Prod.mk.injEq] at H
    obtain ⟨rfl, rfl, rfl, rfl, rfl, rfl, rfl, rfl, rfl⟩ := H
    go_enter Try.func18, Try.ntmps18
    go_wp2_with (first | ((with_reducible refine gate_dst (N := 1) rfl ?_); refine box_event ?hg (N := 1) ?hd (cs := #[.int .i64 a0_0, .string a0_1, .int .i64 a0_2, .int .i64 a0_3, .int .i64 a0_4, .float .f64 a0_5, .string a0_6, .slice A0_7 l0_7.length c0_7, .slice A0_8 l0_8.length c0_8]) (t := 32) ?hr ?_; (case hd => rfl); (case hg => rfl); (case hr => first | (go_simp; done) | (go_simp; rfl)); intro gb227 hg w4 hbox hb; have n0_ := Aside0.mk (Kd.V_below (Kd.V_elderB (by (with_reducible repeat (first | apply Kd.V_alloc | apply Kd.V_drewN | apply Kd.V_drew)); exact HO0_8.out) gb227 (Nat.le_of_eq hg.symm)) hb); have n1_ := Aside0.mk (below_step (by repeat (first | (with_reducible first | exact HB.out | apply below_alloc | apply pw_below_drewN | apply below_drew1) | exact HB.out)) hb); have n2_ := Aside0.mk (hbox); have n3_ := Aside0.mk ((by rw [hg]; exact (below_size (by repeat (first | (with_reducible first | exact HB.out | apply below_alloc | apply pw_below_drewN | apply below_drew1) | exact HB.out))) : w.heap.size ≤ gb227)); have n4_ := Aside0.mk ((by rw [hg]; exact (below_size (by repeat (first | (with_reducible first | exact HB.out | apply below_alloc | apply pw_below_drewN | apply below_drew1) | exact HB.out))) : w.heap.size ≤ gb227)); clear HO0_8; clear HB; have HO0_8 := n0_; have HB := n1_; have BK227 := n2_; have GW227 := n3_; have GE227 := n4_; clear n0_ n1_ n2_ n3_ n4_; clear hb hbox hg) | ((with_reducible refine gate_dst (N := 2) rfl ?_); refine box_event ?hg (N := 2) ?hd (cs := #[.int .i64 0, .string (⟨#[]⟩ : ByteArray), .int .i64 0, .int .i64 0, .int .i64 0, .float .f64 (0 : Nat), .string (⟨#[]⟩ : ByteArray), .slice none 0 0, .slice none 0 0]) (t := 32) ?hr ?_; (case hd => rfl); (case hg => rfl); (case hr => first | (go_simp; done) | (go_simp; rfl)); intro gb228 hg w5 hbox hb; have n0_ := Aside0.mk (Kd.V_below (Kd.V_elderB (by (with_reducible repeat (first | apply Kd.V_alloc | apply Kd.V_drewN | apply Kd.V_drew)); exact HO0_8.out) gb228 (Nat.le_of_eq hg.symm)) hb); have n1_ := blkS BK227 hb; have n2_ := Aside0.mk (below_step (by repeat (first | (with_reducible first | exact HB.out | apply below_alloc | apply pw_below_drewN | apply below_drew1 | refine below_set ?_ GE227.out) | exact HB.out)) hb); have n3_ := Aside0.mk (hbox); have n4_ := Aside0.mk ((by rw [hg]; exact (below_size (by repeat (first | (with_reducible first | exact HB.out | apply below_alloc | apply pw_below_drewN | apply below_drew1 | refine below_set ?_ GE227.out) | exact HB.out))) : w.heap.size ≤ gb228)); have n5_ := Aside0.mk ((by rw [hg]; exact (below_size (by repeat (first | (with_reducible first | exact HB.out | apply below_alloc | apply pw_below_drewN | apply below_drew1 | refine below_set ?_ GE227.out) | exact HB.out))) : w.heap.size ≤ gb228)); have n6_ := Aside0.mk ((by rw [hg]; exact Nat.ne_of_lt (blk_lt (g := gb227) (o := .cells #[.int .i64 a0_0, .string a0_1, .int .i64 a0_2, .int .i64 a0_3, .int .i64 a0_4, .float .f64 a0_5, .string a0_6, .slice A0_7 l0_7.length c0_7, .slice A0_8 l0_8.length c0_8] 32 (0, 0)) (by (with_reducible repeat (first | refine blk_drewN ?_ _ | refine blk_drew ?_ | refine blk_alloc ?_ _)); exact BK227.out)) : gb227 ≠ gb228)); have n7_ := Aside0.mk ((by rw [hg]; exact Nat.ne_of_gt (blk_lt (g := gb227) (o := .cells #[.int .i64 a0_0, .string a0_1, .int .i64 a0_2, .int .i64 a0_3, .int .i64 a0_4, .float .f64 a0_5, .string a0_6, .slice A0_7 l0_7.length c0_7, .slice A0_8 l0_8.length c0_8] 32 (0, 0)) (by (with_reducible repeat (first | refine blk_drewN ?_ _ | refine blk_drew ?_ | refine blk_alloc ?_ _)); exact BK227.out)) : gb228 ≠ gb227)); clear HO0_8; clear BK227; clear HB; have HO0_8 := n0_; have BK227 := n1_; have HB := n2_; have BK228 := n3_; have GW228 := n4_; have GE228 := n5_; have NB227_228 := n6_; have NB228_227 := n7_; clear n0_ n1_ n2_ n3_ n4_ n5_ n6_ n7_; clear hb hbox hg; have hnb6 := NB227_228.out; have hnc6 := NB228_227.out; obtain ⟨hcz7_0, hcz7_1, hcz7_2, hcz7_3, hcz7_4, hcz7_5, hcz7_6, hcz7_7, hcz7_8⟩ := cells_9 BK227.out; obtain ⟨hfz7_0, hfz7_1, hfz7_2, hfz7_3, hfz7_4, hfz7_5, hfz7_6, hfz7_7, hfz7_8⟩ := froz_9 BK227.out) | ((with_reducible refine gate_callee (f := 33) rfl ?_); refine goesL_ (some 6) rfl rfl Try.func33 (by kernel_rfl) rfl #[.slice A0_7 l0_7.length c0_7] rfl (by (try simp only [List.map_toArray, List.map_cons, List.map_nil]); first | done | rfl | (simp only [List.length_drop, List.length_take]; rfl)) ?_; (with_reducible refine (colonnadelaw18_values.calls _ _ l0_7 t229 _ ?side1 ?side2 A2.out).mono ?_); (case side1 => repeat (first | exact (Kd.C_below HR0_7.out HB.out) | (with_reducible refine Kd.C_alloc ?_ _) | (with_reducible refine Kd.C_drewN ?_ _) | (with_reducible refine Kd.C_drew ?_))); (case side2 => exact HC0_7.out); rintro e w8 ⟨v230, rfl, ho0, hb⟩; refine ⟨_, rfl, ?_⟩; have n0_ := Aside0.mk (Kd.V_elder' (by (with_reducible repeat (first | apply Kd.V_alloc | apply Kd.V_drewN | apply Kd.V_drew)); exact HO0_8.out) (Kd.R_base ho0) hb); have n1_ := Aside0.mk (Kd.R_lower (Kd.R_newM (M := fun k_ => (w.heap.size ≤ k_)) ho0 (below_size (by repeat (first | (with_reducible first | exact HB.out | apply below_alloc | apply pw_below_drewN | apply below_drew1 | refine below_set ?_ GE227.out | refine below_set ?_ GE228.out) | exact HB.out))) (fun k_ h_ => h_)) (below_size (by repeat (first | (with_reducible first | exact HB.out | apply below_alloc | apply pw_below_drewN | apply below_drew1 | refine below_set ?_ GE227.out | refine below_set ?_ GE228.out) | exact HB.out)))); have n2_ := blkS BK227 hb; have n3_ := blkS BK228 hb; have n4_ := Aside0.mk (below_step (by repeat (first | (with_reducible first | exact HB.out | apply below_alloc | apply pw_below_drewN | apply below_drew1 | refine below_set ?_ GE227.out | refine below_set ?_ GE228.out) | exact HB.out)) hb); clear HO0_8; clear BK227; clear BK228; clear HB; have HO0_8 := n0_; have HO231 := n1_; have BK227 := n2_; have BK228 := n3_; have HB := n4_; clear n0_ n1_ n2_ n3_ n4_; (try clear hb); (try clear hb2); (try clear hk); (try clear hi); (try clear ho0); obtain ⟨Ao9, co9, eo9⟩ := Kd.R_slice HO231.out; subst eo9; obtain ⟨hcz10_0, hcz10_1, hcz10_2, hcz10_3, hcz10_4, hcz10_5, hcz10_6, hcz10_7, hcz10_8⟩ := cells_9 BK227.out; obtain ⟨hfz10_0, hfz10_1, hfz10_2, hfz10_3, hfz10_4, hfz10_5, hfz10_6, hfz10_7, hfz10_8⟩ := froz_9 BK227.out) | ((with_reducible refine gate_builtin (b := .append) (xs := #[.tmp 8, .tmp 10]) rfl ?_); at_builtin; refine Kd.N_append_rows k32 (w0 := w) w.heap.size rfl (.tmp 8) (.tmp 10) 30 32 (.agg #[(.int .i64 0), (.string ⟨#[]⟩), (.int .i64 0), (.int .i64 0), (.int .i64 0), (.float .f64 0), (.string ⟨#[]⟩), (.slice none 0 0), (.slice none 0 0)]) 120 rfl Try.underlying30 info32 rfl (by decide) (by omega) (.slice none 0 0) ([] : List (S32)) l0_8 _ _ _ (fun k_ => (P0_8_ k_ ∨ w.heap.size ≤ k_) ∧ some k_ ≠ (.slice Ao9 t229.length co9 : Value).ownBlock ∧ k_ ≠ gb227 ∧ k_ ≠ gb228) (fun k_ => ((fun k_ => (P0_8_ k_ ∨ w.heap.size ≤ k_) ∧ some k_ ≠ (.slice Ao9 t229.length co9 : Value).ownBlock ∧ k_ ≠ gb227 ∧ k_ ≠ gb228)) k_ ∧ some k_ ≠ (.slice none 0 0 : Value).ownBlock) rfl rfl ?aO ?aR (fun _ hk => hk) ?aF ?aB ?aS ?aL ?_; (case aR => exact (by skip; exact Kd.V_F (Kd.V_mono (ok' := (fun k_ => ((fun k_ => (P0_8_ k_ ∨ w.heap.size ≤ k_) ∧ some k_ ≠ (.slice Ao9 t229.length co9 : Value).ownBlock ∧ k_ ≠ gb227 ∧ k_ ≠ gb228)) k_ ∧ some k_ ≠ (.slice none 0 0 : Value).ownBlock)) ((Kd.V_far (p := ⟨gb227, 7, none⟩) (Kd.V_mono HO0_8.out (fun k_ hk => (⟨hk, hk.1.1.2⟩ : _ ∧ k_ ≠ gb227))) (fun _ hk => hk.2) (.slice Ao9 t229.length co9))) (fun k_ hk => ⟨⟨hk.1.1.1.1, ⟨hk.1.2, ⟨hk.1.1.1.2, hk.1.1.2⟩⟩⟩, (by simp [Value.ownBlock])⟩)))); (case aB => exact (by repeat (first | (with_reducible first | exact HB.out | apply below_alloc | apply pw_below_drewN | apply below_drew1 | refine below_set ?_ GE227.out | refine below_set ?_ GE228.out) | exact HB.out))); (case aF => exact (fun k_ hk => ⟨(.inr (Nat.le_trans (below_size (by repeat (first | (with_reducible first | exact HB.out | apply below_alloc | apply pw_below_drewN | apply below_drew1 | refine below_set ?_ GE227.out | refine below_set ?_ GE228.out) | exact HB.out))) hk)), Kd.fresh' (Kd.R_lt (by (with_reducible repeat (first | apply Kd.R_alloc | apply Kd.R_drewN | apply Kd.R_drew)); exact (Kd.R_mono (Kd.R_far (p := ⟨gb227, 7, none⟩) (Kd.R_types HO231.out BK227.out (by decide)) (fun _ hk => hk.2) (.slice Ao9 t229.length co9)) (fun _ h_ => h_.1)))) k_ hk, Kd.freshB (g := gb227) (o := .cells #[.int .i64 a0_0, .string a0_1, .int .i64 a0_2, .int .i64 a0_3, .int .i64 a0_4, .float .f64 a0_5, .string a0_6, .slice Ao9 t229.length co9, .slice A0_8 l0_8.length c0_8] 32 (0, 0)) (by (with_reducible repeat (first | refine blk_drewN ?_ _ | refine blk_drew ?_ | refine blk_alloc ?_ _)); refine blk_put (cs := #[.int .i64 a0_0, .string a0_1, .int .i64 a0_2, .int .i64 a0_3, .int .i64 a0_4, .float .f64 a0_5, .string a0_6, .slice A0_7 l0_7.length c0_7, .slice A0_8 l0_8.length c0_8]) ?_ 7 _ rfl; (with_reducible repeat (first | refine blk_drewN ?_ _ | refine blk_drew ?_ | refine blk_alloc ?_ _)); exact BK227.out) k_ hk, Kd.freshB (g := gb228) (o := .cells #[.int .i64 0, .string (⟨#[]⟩ : ByteArray), .int .i64 0, .int .i64 0, .int .i64 0, .float .f64 (0 : Nat), .string (⟨#[]⟩ : ByteArray), .slice none 0 0, .slice none 0 0] 32 (0, 0)) (by (with_reducible repeat (first | refine blk_drewN ?_ _ | refine blk_drew ?_ | refine blk_alloc ?_ _)); refine blk_far ?_ NB228_227.out _; (with_reducible repeat (first | refine blk_drewN ?_ _ | refine blk_drew ?_ | refine blk_alloc ?_ _)); exact BK228.out) k_ hk⟩)); (case aO => exact ((Kd.N_nil _ _ _ _ (fun k_ => (P0_8_ k_ ∨ w.heap.size ≤ k_) ∧ some k_ ≠ (.slice Ao9 t229.length co9 : Value).ownBlock ∧ k_ ≠ gb227 ∧ k_ ≠ gb228)))); (case aS => exact (below_size (by repeat (first | (with_reducible first | exact HB.out | apply below_alloc | apply pw_below_drewN | apply below_drew1 | refine below_set ?_ GE227.out | refine below_set ?_ GE228.out) | exact HB.out)))); (case aL => have := LMc3.out; omega); intro v233 w11 ho hb hg hat; rw [← Ny232.out] at ho; have n0_ := Aside0.mk (Kd.V_afterv (Kd.V_apart_nil (by (with_reducible repeat (first | apply Kd.V_alloc | apply Kd.V_drewN | apply Kd.V_drew)); exact (Kd.V_mono (Kd.V_far (p := ⟨gb227, 7, none⟩) (Kd.V_mono HO0_8.out (fun k_ hk => (⟨hk, hk.1.1.2⟩ : _ ∧ k_ ≠ gb227))) (fun _ hk => hk.2) (.slice Ao9 t229.length co9)) (fun _ h_ => h_.1)))) hg hat); have n1_ := Aside0.mk (blk_grown (g := gb227) (o := .cells #[.int .i64 a0_0, .string a0_1, .int .i64 a0_2, .int .i64 a0_3, .int .i64 a0_4, .float .f64 a0_5, .string a0_6, .slice Ao9 t229.length co9, .slice A0_8 l0_8.length c0_8] 32 (0, 0)) (by (with_reducible repeat (first | refine blk_drewN ?_ _ | refine blk_drew ?_ | refine blk_alloc ?_ _)); refine blk_put (cs := #[.int .i64 a0_0, .string a0_1, .int .i64 a0_2, .int .i64 a0_3, .int .i64 a0_4, .float .f64 a0_5, .string a0_6, .slice A0_7 l0_7.length c0_7, .slice A0_8 l0_8.length c0_8]) ?_ 7 _ rfl; (with_reducible repeat (first | refine blk_drewN ?_ _ | refine blk_drew ?_ | refine blk_alloc ?_ _)); exact BK227.out) hg (by simp [Value.ownBlock])); have n2_ := Aside0.mk (blk_grown (g := gb228) (o := .cells #[.int .i64 0, .string (⟨#[]⟩ : ByteArray), .int .i64 0, .int .i64 0, .int .i64 0, .float .f64 (0 : Nat), .string (⟨#[]⟩ : ByteArray), .slice none 0 0, .slice none 0 0] 32 (0, 0)) (by (with_reducible repeat (first | refine blk_drewN ?_ _ | refine blk_drew ?_ | refine blk_alloc ?_ _)); refine blk_far ?_ NB228_227.out _; (with_reducible repeat (first | refine blk_drewN ?_ _ | refine blk_drew ?_ | refine blk_alloc ?_ _)); exact BK228.out) hg (by simp [Value.ownBlock])); have n3_ := Aside0.mk (Kd.R_grown (by (with_reducible repeat (first | apply Kd.R_alloc | apply Kd.R_drewN | apply Kd.R_drew)); exact (Kd.R_mono (Kd.R_far (p := ⟨gb227, 7, none⟩) (Kd.R_types HO231.out BK227.out (by decide)) (fun _ hk => hk.2) (.slice Ao9 t229.length co9)) (fun _ h_ => h_.1))) hg (fun _ _ => by simp [Value.ownBlock])); have n4_ := Aside0.mk (hb); have n5_ := Aside0.mk (ho); clear HO0_8; clear BK227; clear BK228; clear HO231; clear HB; have HO0_8 := n0_; have BK227 := n1_; have BK228 := n2_; have HO231 := n3_; have HB := n4_; have HO234 := n5_; clear n0_ n1_ n2_ n3_ n4_ n5_; clear ho hb hg hat; obtain ⟨Ao12, co12, eo12⟩ := Kd.N_slice HO234.out; subst eo12; obtain ⟨hcz13_0, hcz13_1, hcz13_2, hcz13_3, hcz13_4, hcz13_5, hcz13_6, hcz13_7, hcz13_8⟩ := cells_9 BK227.out; obtain ⟨hfz13_0, hfz13_1, hfz13_2, hfz13_3, hfz13_4, hfz13_5, hfz13_6, hfz13_7, hfz13_8⟩ := froz_9 BK227.out; obtain ⟨hcz14_0, hcz14_1, hcz14_2, hcz14_3, hcz14_4, hcz14_5, hcz14_6, hcz14_7, hcz14_8⟩ := cells_9 BK228.out; obtain ⟨hfz14_0, hfz14_1, hfz14_2, hfz14_3, hfz14_4, hfz14_5, hfz14_6, hfz14_7, hfz14_8⟩ := froz_9 BK228.out))
    refine bodyPost_ret (results_cell_row rfl _ _ gb228 32 #[.int .i64 a0_0, .string a0_1, .int .i64 a0_2, .int .i64 a0_3, .int .i64 a0_4, .float .f64 a0_5, .string a0_6, .slice Ao9 t229.length co9, .slice Ao12 y232.length co12] (0, 0) _ rfl (by (with_reducible repeat (first | refine blk_drewN ?_ _ | refine blk_drew ?_ | refine blk_alloc ?_ _)); refine blk_put (cs := #[.int .i64 a0_0, .string a0_1, .int .i64 a0_2, .int .i64 a0_3, .int .i64 a0_4, .float .f64 a0_5, .string a0_6, .slice Ao9 t229.length co9, .slice none 0 0]) ?_ 8 _ rfl; (with_reducible repeat (first | refine blk_drewN ?_ _ | refine blk_drew ?_ | refine blk_alloc ?_ _)); refine blk_put (cs := #[.int .i64 a0_0, .string a0_1, .int .i64 a0_2, .int .i64 a0_3, .int .i64 a0_4, .float .f64 a0_5, .string a0_6, .slice none 0 0, .slice none 0 0]) ?_ 7 _ rfl; (with_reducible repeat (first | refine blk_drewN ?_ _ | refine blk_drew ?_ | refine blk_alloc ?_ _)); refine blk_put (cs := #[.int .i64 a0_0, .string a0_1, .int .i64 a0_2, .int .i64 a0_3, .int .i64 a0_4, .float .f64 a0_5, .string (⟨#[]⟩ : ByteArray), .slice none 0 0, .slice none 0 0]) ?_ 6 _ rfl; (with_reducible repeat (first | refine blk_drewN ?_ _ | refine blk_drew ?_ | refine blk_alloc ?_ _)); refine blk_put (cs := #[.int .i64 a0_0, .string a0_1, .int .i64 a0_2, .int .i64 a0_3, .int .i64 a0_4, .float .f64 (0 : Nat), .string (⟨#[]⟩ : ByteArray), .slice none 0 0, .slice none 0 0]) ?_ 5 _ rfl; (with_reducible repeat (first | refine blk_drewN ?_ _ | refine blk_drew ?_ | refine blk_alloc ?_ _)); refine blk_put (cs := #[.int .i64 a0_0, .string a0_1, .int .i64 a0_2, .int .i64 a0_3, .int .i64 0, .float .f64 (0 : Nat), .string (⟨#[]⟩ : ByteArray), .slice none 0 0, .slice none 0 0]) ?_ 4 _ rfl; (with_reducible repeat (first | refine blk_drewN ?_ _ | refine blk_drew ?_ | refine blk_alloc ?_ _)); refine blk_put (cs := #[.int .i64 a0_0, .string a0_1, .int .i64 a0_2, .int .i64 0, .int .i64 0, .float .f64 (0 : Nat), .string (⟨#[]⟩ : ByteArray), .slice none 0 0, .slice none 0 0]) ?_ 3 _ rfl; (with_reducible repeat (first | refine blk_drewN ?_ _ | refine blk_drew ?_ | refine blk_alloc ?_ _)); refine blk_put (cs := #[.int .i64 a0_0, .string a0_1, .int .i64 0, .int .i64 0, .int .i64 0, .float .f64 (0 : Nat), .string (⟨#[]⟩ : ByteArray), .slice none 0 0, .slice none 0 0]) ?_ 2 _ rfl; (with_reducible repeat (first | refine blk_drewN ?_ _ | refine blk_drew ?_ | refine blk_alloc ?_ _)); refine blk_put (cs := #[.int .i64 a0_0, .string (⟨#[]⟩ : ByteArray), .int .i64 0, .int .i64 0, .int .i64 0, .float .f64 (0 : Nat), .string (⟨#[]⟩ : ByteArray), .slice none 0 0, .slice none 0 0]) ?_ 1 _ rfl; (with_reducible repeat (first | refine blk_drewN ?_ _ | refine blk_drew ?_ | refine blk_alloc ?_ _)); refine blk_put (cs := #[.int .i64 0, .string (⟨#[]⟩ : ByteArray), .int .i64 0, .int .i64 0, .int .i64 0, .float .f64 (0 : Nat), .string (⟨#[]⟩ : ByteArray), .slice none 0 0, .slice none 0 0]) ?_ 0 _ rfl; (with_reducible repeat (first | refine blk_drewN ?_ _ | refine blk_drew ?_ | refine blk_alloc ?_ _)); refine blk_far ?_ NB228_227.out _; (with_reducible repeat (first | refine blk_drewN ?_ _ | refine blk_drew ?_ | refine blk_alloc ?_ _)); exact BK228.out) Try.underlying32 rfl (by kernel_rfl)) rfl ?_
    exact ⟨_, _, by first | rfl | (simp [errW_none, errW_some] <;> rfl) | (simp [*, errW_none, errW_some] <;> rfl), by (with_reducible repeat (first | apply Kd.R_alloc | apply Kd.R_drewN | apply Kd.R_drew)); exact Kd.R_mono (Kd.R_far (p := ⟨gb228, 8, none⟩) (Kd.R_far (p := ⟨gb228, 7, none⟩) (Kd.R_far (p := ⟨gb228, 6, none⟩) (Kd.R_far (p := ⟨gb228, 5, none⟩) (Kd.R_far (p := ⟨gb228, 4, none⟩) (Kd.R_far (p := ⟨gb228, 3, none⟩) (Kd.R_far (p := ⟨gb228, 2, none⟩) (Kd.R_far (p := ⟨gb228, 1, none⟩) (Kd.R_far (p := ⟨gb228, 0, none⟩) (Kd.R_far (p := ⟨gb227, 8, none⟩) (Kd.R_types (Kd.R_types HO231.out BK227.out (by decide)) BK228.out (by decide)) (fun _ hk => hk.1.2) (.slice Ao12 y232.length co12)) (fun _ hk => hk.2) (.int .i64 a0_0)) (fun _ hk => hk.2) (.string a0_1)) (fun _ hk => hk.2) (.int .i64 a0_2)) (fun _ hk => hk.2) (.int .i64 a0_3)) (fun _ hk => hk.2) (.int .i64 a0_4)) (fun _ hk => hk.2) (.float .f64 a0_5)) (fun _ hk => hk.2) (.string a0_6)) (fun _ hk => hk.2) (.slice Ao9 t229.length co9)) (fun _ hk => hk.2) (.slice Ao12 y232.length co12)) (fun _ hk => hk.1.1.1), by (with_reducible repeat (first | apply Kd.N_alloc | apply Kd.N_drewN | apply Kd.N_drew)); exact Kd.N_mono (Kd.N_far (p := ⟨gb228, 8, none⟩) (Kd.N_far (p := ⟨gb228, 7, none⟩) (Kd.N_far (p := ⟨gb228, 6, none⟩) (Kd.N_far (p := ⟨gb228, 5, none⟩) (Kd.N_far (p := ⟨gb228, 4, none⟩) (Kd.N_far (p := ⟨gb228, 3, none⟩) (Kd.N_far (p := ⟨gb228, 2, none⟩) (Kd.N_far (p := ⟨gb228, 1, none⟩) (Kd.N_far (p := ⟨gb228, 0, none⟩) (Kd.N_far (p := ⟨gb227, 8, none⟩) (Kd.N_mono (Kd.N_mono HO234.out (fun k_ hk => (⟨hk, hk.2.2.1⟩ : _ ∧ k_ ≠ gb227))) (fun k_ hk => (⟨hk, hk.1.2.2.2⟩ : _ ∧ k_ ≠ gb228))) (fun _ hk => hk.1.2) (.slice Ao12 y232.length co12)) (fun _ hk => hk.2) (.int .i64 a0_0)) (fun _ hk => hk.2) (.string a0_1)) (fun _ hk => hk.2) (.int .i64 a0_2)) (fun _ hk => hk.2) (.int .i64 a0_3)) (fun _ hk => hk.2) (.int .i64 a0_4)) (fun _ hk => hk.2) (.float .f64 a0_5)) (fun _ hk => hk.2) (.string a0_6)) (fun _ hk => hk.2) (.slice Ao9 t229.length co9)) (fun _ hk => hk.2) (.slice Ao12 y232.length co12)) (fun _ hk => ⟨hk.1.1.1, hk.1.1.2.1⟩), by repeat (first | (with_reducible first | exact HB.out | apply below_alloc | apply pw_below_drewN | apply below_drew1 | refine below_set ?_ GE227.out | refine below_set ?_ GE228.out) | exact HB.out)⟩
  · rw [if_neg c3] at H
    exact absurd H (by simp)

end Go.Proofs.Ytkedejphebfneaa.Pa
end
section
/- Known says true; lists that are walked; a predicate's twin. Plain. -/
namespace Go.Proofs.Ytkedejphebfneaa.V
open Go.RowKit Go.Proofs.Ytkedejphebfneaa.Pa Go.Proofs.Ytkedejphebfneaa.L Go.Proofs.Ytkedejphebfneaa.F Go.Proofs.YtkedejphebfneaaW.PrintWords Go.Proofs.YtkedejphebfneaaW.PrintLast Go.Proofs.YtkedejphebfneaaW.PrintMore
set_option linter.unusedVariables false
set_option linter.unusedSimpArgs false
theorem known_f : Evn (fun k => colonnadelaw18_known.f k) true := Evn.now _
theorem idx_f {q : Nat → S28 → Option Bool} {b : S28 → Bool} : ∀ (l : List S28) (i : Int), 0 ≤ i → (∀ c ∈ l, Evn (fun k => q k c) (b c)) → ∃ r, Evn (fun k => idxT (q k) l i) r ∧ decide (0 ≤ r) = l.any b
  | [], i, _, _ => ⟨-1, Evn.now _, rfl⟩
  | c :: cs, i, h, hq => by
    have h1 := hq c (by simp)
    obtain ⟨r, e1, e2⟩ := idx_f cs (i + 1) (by omega) (fun d hd => hq d (by simp [hd]))
    by_cases hb : b c = true
    · exact ⟨i, Evn.congr (fun k => by rw [idxT]) (Evn.bind h1 (Evn.pos hb (Evn.now _))), by simp [hb, h]⟩
    · exact ⟨r, Evn.congr (fun k => by rw [idxT]) (Evn.bind h1 (Evn.neg hb e1)), by simp [hb, e2]⟩
theorem twin_f (a0 : Int) (a1 : ByteArray) (a2 a3 a4 : Int) (a5 : Nat) (a6 : ByteArray) (l7 : List S28) (l8 : List S32) (h7 : l7.length < 3518437208883) (h8 : l8.length < 1172812402961) :
    colonnadelaw18_twin.f a0 a1 a2 a3 a4 a5 a6 l7 l8 = some (a0, a1, a2, a3, a4, a5, a6, l7, l8) := by
  unfold colonnadelaw18_twin.f colonnadelaw18_values.f
  rw [if_pos (by simpa using h7), Option.bind_some, if_pos (by simpa using h8)]
  rfl
end Go.Proofs.Ytkedejphebfneaa.V
end
section
/- Test, plainly: what the program answers. -/
namespace Go.Proofs.Ytkedejphebfneaa.V
open Go.RowKit Go.Proofs.Ytkedejphebfneaa.Pa Go.Proofs.Ytkedejphebfneaa.L Go.Proofs.Ytkedejphebfneaa.F Go.Proofs.YtkedejphebfneaaW.PrintWords Go.Proofs.YtkedejphebfneaaW.PrintLast Go.Proofs.YtkedejphebfneaaW.PrintMore
set_option linter.unusedVariables false
set_option linter.unusedSimpArgs false
/-- How a value stands to another one. -/
def stS (c op : Int) : Bool := if op = 1 then c == 0 else if op = 2 then c != 0 else if op = 3 then decide (c < 0) else if op = 4 then decide (c ≤ 0) else if op = 5 then decide (c > 0) else if op = 6 then decide (c ≥ 0) else false
theorem stands_f (c op : Int) : atom_stands.f c op = some (stS c op) := by
  unfold atom_stands.f stS
  by_cases h1 : op = 1
  · simp [h1]
  by_cases h2 : op = 2
  · simp [h2]
  by_cases h3 : op = 3
  · simp [h3]
  by_cases h4 : op = 4
  · simp [h4]
  by_cases h5 : op = 5
  · simp [h5]
  by_cases h6 : op = 6
  · simp [h6]
  simp [h1, h2, h3, h4, h5, h6]
/-- How a value stands to one of a list. -/
def cS (k i : Int) (r : Nat) (s : ByteArray) (c : S28) : Int := cmpS k i r s c.f0 c.f1 c.f2 c.f3
def rz (l : List S28) (i : Nat) : S28 := rd_T28 l (i : Int)
/-- Does a text begin with another one? -/
def preS (s p : ByteArray) : Bool := if p.size ≤ s.size then (s.extract 0 p.size).toList == p.toList else false
def sayS (a0 a2 a3 a4 : Int) (a5 : Nat) (a6 : ByteArray) (l7 : List S28) (k i : Int) (r : Nat) (s : ByteArray) : Bool :=
  if a0 = 1 then stS (cmpS k i r s a3 a4 a5 a6) a2 else if a0 = 2 then l7.any (fun c => cS k i r s c == 0)
  else if a0 = 3 then decide (2 ≤ l7.length) && decide (cS k i r s (rz l7 0) ≥ 0) && decide (cS k i r s (rz l7 1) ≤ 0)
  else if a0 = 5 then decide (k = 2) && decide (a3 = 2) && preS s a6 else false
def okL (l7 : List S28) : Prop := ∀ c ∈ l7, c.f2 < 18446744073709551616
theorem rz_mem {l7 : List S28} (i : Nat) (h : i < l7.length) : rz l7 i ∈ l7 := by
  unfold rz rd_T28
  simp [List.getD_eq_getElem?_getD, List.getElem?_eq_getElem h]
theorem hasPrefix_f (s p : ByteArray) : strings_HasPrefix.f s p = some (preS s p) := by
  unfold strings_HasPrefix.f stringslite_HasPrefix.f preS
  by_cases h : p.size ≤ s.size
  · rw [if_pos (by omega), if_pos (by omega), if_pos (by omega), if_pos h]; simp
  · rw [if_neg (by omega), if_neg h]; rfl
theorem rprefix_f (s p : ByteArray) : (if (s.size : Int) ≥ (p.size : Int) then (if 0 ≤ (p.size : Int) then (if (p.size : Int) ≤ (s.size : Int) then (some ((s.extract 0 ((p.size : Int) : Int).toNat).toList == p.toList)) else (none)) else (none)) else (some false)) = some (preS s p) := by
  unfold preS
  by_cases h : p.size ≤ s.size
  · rw [if_pos (by omega), if_pos (by omega), if_pos (by omega), if_pos h]; simp
  · rw [if_neg (by omega), if_neg h]
theorem cmp_c (k i : Int) {r : Nat} (s : ByteArray) (c : S28) (h : r < 18446744073709551616) (h' : c.f2 < 18446744073709551616) : Evn (fun n => value_Compare.f n k i r s c.f0 c.f1 c.f2 c.f3) (cS k i r s c) := compare_f k i s _ _ _ h h'
theorem contains_f (l7 : List S28) (k i : Int) {r : Nat} (s : ByteArray) (h : r < 18446744073709551616) (hl : okL l7) : Evn (fun n => containsSays.f n l7 k i r s) (l7.any (fun c => cS k i r s c == 0)) := by
  unfold containsSays.f
  obtain ⟨x, i1, i2⟩ := idx_f (q := fun n c => (value_Compare.f n k i r s c.f0 c.f1 c.f2 c.f3).bind fun r => some (r == 0)) (b := fun c => cS k i r s c == 0) l7 0 (by omega) (fun c hc => Evn.bind (cmp_c k i s c h (hl c hc)) (Evn.now _))
  rw [← i2]
  exact Evn.bind i1 (Evn.now _)
theorem says_f (a0 : Int) (a1 : ByteArray) (a2 a3 a4 : Int) (a5 : Nat) (a6 : ByteArray) (l7 : List S28) (l8 : List S32) (k i : Int) {r : Nat} (s : ByteArray) (h5 : a5 < 18446744073709551616) (hl : okL l7) (h : r < 18446744073709551616) :
    Evn (fun n => atom_says.f n a0 a1 a2 a3 a4 a5 a6 l7 l8 k i r s) (sayS a0 a2 a3 a4 a5 a6 l7 k i r s) := by
  unfold atom_says.f sayS
  by_cases h1 : a0 = 1
  · rw [if_pos h1]
    refine Evn.pos h1 (Evn.bind (compare_f k i s a3 a4 a6 h h5) ?_)
    rw [stands_f]
    exact Evn.now _
  rw [if_neg h1]
  refine Evn.neg h1 ?_
  by_cases h2 : a0 = 2
  · rw [if_pos h2]
    exact Evn.pos h2 (Evn.bind (contains_f l7 k i s h hl) (Evn.now _))
  rw [if_neg h2]
  refine Evn.neg h2 ?_
  by_cases h3 : a0 = 3
  · rw [if_pos h3]
    refine Evn.pos h3 ?_
    by_cases hn : 2 ≤ l7.length
    · rw [decide_eq_true hn, Bool.true_and]
      refine Evn.pos (by omega) (Evn.pos (by omega) (Evn.bind (cmp_c k i s (rz l7 0) h (hl _ (rz_mem 0 (by omega)))) ?_))
      by_cases q : cS k i r s (rz l7 0) ≥ 0
      · rw [decide_eq_true q, Bool.true_and]
        exact Evn.pos q (Evn.pos (by omega) (Evn.bind (cmp_c k i s (rz l7 1) h (hl _ (rz_mem 1 (by omega)))) (Evn.now _)))
      · rw [decide_eq_false q, Bool.false_and]
        exact Evn.neg q (Evn.now _)
    · rw [decide_eq_false hn, Bool.false_and, Bool.false_and]
      exact Evn.neg (by omega) (Evn.now _)
  rw [if_neg h3]
  refine Evn.neg h3 ?_
  by_cases c5 : a0 = 5
  · simp only [if_pos c5]
    by_cases q : k = 2
    · rw [decide_eq_true q, Bool.true_and]
      refine Evn.pos q ?_
      by_cases q2 : a3 = 2
      · rw [decide_eq_true q2, Bool.true_and]
        refine Evn.pos q2 ?_
        rw [hasPrefix_f]
        exact Evn.now _
      · rw [decide_eq_false q2, Bool.false_and]
        exact Evn.neg q2 (Evn.now _)
    · rw [decide_eq_false q, Bool.false_and, Bool.false_and]
      exact Evn.neg q (Evn.now _)
  · simp only [if_neg c5]
    exact Evn.now _
/-- What an atom says of a value. -/
def testS (a0 a2 a3 a4 : Int) (a5 : Nat) (a6 : ByteArray) (l7 : List S28) (k i : Int) (r : Nat) (s : ByteArray) : Int :=
  if ¬ (1 ≤ a0 ∧ a0 ≤ 5) ∨ mayS k i r s = false then 0 else if k = 0 then (if a0 = 4 then 1 else 2) else if sayS a0 a2 a3 a4 a5 a6 l7 k i r s = true then 1 else 0
theorem test_f (a0 : Int) (a1 : ByteArray) (a2 a3 a4 : Int) (a5 : Nat) (a6 : ByteArray) (l7 : List S28) (l8 : List S32) (k i : Int) {r : Nat} (s : ByteArray) (h5 : a5 < 18446744073709551616) (hl : okL l7) (h : r < 18446744073709551616) :
    Evn (fun n => atom_Test.f n a0 a1 a2 a3 a4 a5 a6 l7 l8 k i r s) (testS a0 a2 a3 a4 a5 a6 l7 k i r s) := by
  unfold atom_Test.f testS
  have e15 : atom_is.f a0 a1 a2 a3 a4 a5 a6 l7 l8 = some (decide (1 ≤ a0 ∧ a0 ≤ 5)) := by
    unfold atom_is.f
    by_cases q : 1 ≤ a0 <;> simp [q]
  rw [e15]
  simp only [Option.bind_some]
  by_cases h1 : 1 ≤ a0 ∧ a0 ≤ 5
  · refine Evn.pos (decide_eq_true h1) (Evn.bind (may_f k i s h) (Evn.succ (fun n => by rw [atom_Test.j0]) ?_))
    by_cases hm : mayS k i r s = true
    · have hc : ¬ (¬ (1 ≤ a0 ∧ a0 ≤ 5) ∨ true = false) := by simp; exact h1
      rw [hm, if_neg hc]
      refine Evn.neg (by decide) ?_
      by_cases h0 : k = 0
      · rw [if_pos h0]
        refine Evn.pos h0 (Evn.succ (fun n => by rw [atom_Test.j1]) ?_)
        by_cases h4 : a0 = 4
        · rw [if_pos h4]; exact Evn.pos (by simpa using h4) (Evn.now _)
        · rw [if_neg h4]; exact Evn.neg (by simpa using h4) (Evn.pos h0 (Evn.now _))
      · rw [if_neg h0]
        refine Evn.neg h0 (Evn.succ (fun n => by rw [atom_Test.j1]) ?_)
        refine Evn.neg (by decide) (Evn.neg h0 (Evn.bind (says_f a0 a1 a2 a3 a4 a5 a6 l7 l8 k i s h5 hl h) ?_))
        by_cases q : sayS a0 a2 a3 a4 a5 a6 l7 k i r s = true
        · simp only [if_pos q]; exact Evn.now _
        · simp only [if_neg q]; exact Evn.now _
    · have hm : mayS k i r s = false := by simpa using hm
      rw [hm, if_pos (Or.inr rfl)]
      exact Evn.pos rfl (Evn.now _)
  · rw [if_pos (Or.inl h1)]
    refine Evn.neg (by rw [decide_eq_false h1]; decide) (Evn.succ (fun n => by rw [atom_Test.j0]) ?_)
    rw [decide_eq_false h1]
    exact Evn.pos rfl (Evn.now _)
end Go.Proofs.Ytkedejphebfneaa.V
end
section
/- Texts that begin so, plainly. No program in sight. -/
namespace Go.Proofs.Ytkedejphebfneaa.V
open Go.RowKit Go.Proofs.Ytkedejphebfneaa.Pa Go.Proofs.Ytkedejphebfneaa.L Go.Proofs.Ytkedejphebfneaa.F Go.Proofs.YtkedejphebfneaaW.PrintWords Go.Proofs.YtkedejphebfneaaW.PrintLast Go.Proofs.YtkedejphebfneaaW.PrintMore
set_option linter.unusedVariables false
set_option linter.unusedSimpArgs false
theorem begins_f (s p : ByteArray) : colonnadelaw18_begins.f s p = some (preS s p) := rprefix_f s p
theorem pre_iff (s p : ByteArray) : preS s p = true ↔ ∃ l, s.data.toList = p.data.toList ++ l := by
  unfold preS
  constructor
  · intro h
    split at h
    · rename_i hs
      have h := eq_of_beq h
      rw [ByteArray.toList_eq, ByteArray.toList_eq] at h
      refine ⟨s.data.toList.drop p.size, ?_⟩
      have e : (s.extract 0 p.size).data.toList = s.data.toList.take p.size := by simp [ByteArray.extract, ByteArray.copySlice]
      rw [← h, e, List.take_append_drop]
    · cases h
  · rintro ⟨l, h⟩
    have hs : p.size ≤ s.size := by
      have := congrArg List.length h
      simp only [List.length_append] at this
      have e1 : s.data.toList.length = s.size := Array.length_toList
      have e2 : p.data.toList.length = p.size := Array.length_toList
      omega
    rw [if_pos hs]
    have e : (s.extract 0 p.size).data.toList = s.data.toList.take p.size := by simp [ByteArray.extract, ByteArray.copySlice]
    rw [ByteArray.toList_eq, ByteArray.toList_eq, e, h]
    have e2 : p.size = p.data.toList.length := Array.length_toList.symm
    rw [e2, List.take_left]
    simp
theorem cmpB_range : ∀ x y : List UInt8, Lib.compareBytes x y = -1 ∨ Lib.compareBytes x y = 0 ∨ Lib.compareBytes x y = 1
  | [], [] => by simp [Lib.compareBytes]
  | [], _ :: _ => by simp [Lib.compareBytes]
  | _ :: _, [] => by simp [Lib.compareBytes]
  | a :: x, b :: y => by
    rw [Lib.compareBytes]
    split; simp
    split; simp
    exact cmpB_range x y
theorem cmpB_self : ∀ x : List UInt8, Lib.compareBytes x x = 0
  | [] => rfl
  | a :: x => by
    have h : ¬ a < a := fun k => by have := UInt8.lt_iff_toNat_lt.1 k; omega
    rw [Lib.compareBytes, if_neg h, if_neg h]
    exact cmpB_self x
theorem cmpB_zero : ∀ x y : List UInt8, Lib.compareBytes x y = 0 → x = y
  | [], [], _ => rfl
  | [], _ :: _, h => by simp [Lib.compareBytes] at h
  | _ :: _, [], h => by simp [Lib.compareBytes] at h
  | a :: x, b :: y, h => by
    rw [Lib.compareBytes] at h
    split at h; · simp at h
    split at h; · simp at h
    rename_i h1 h2
    have e : a = b := by
      refine UInt8.toNat_inj.1 ?_
      have h1 : ¬ a.toNat < b.toNat := fun k => h1 (UInt8.lt_iff_toNat_lt.2 k)
      have h2 : ¬ b.toNat < a.toNat := fun k => h2 (UInt8.lt_iff_toNat_lt.2 k)
      omega
    rw [e, cmpB_zero x y h]
/-- What begins with a text is not ahead of it. -/
theorem cmpB_pre : ∀ p l : List UInt8, Lib.compareBytes (p ++ l) p ≥ 0
  | [], [] => by simp [Lib.compareBytes]
  | [], _ :: _ => by simp [Lib.compareBytes]
  | a :: p, l => by
    have h : ¬ a < a := fun k => by have := UInt8.lt_iff_toNat_lt.1 k; omega
    rw [List.cons_append, Lib.compareBytes, if_neg h, if_neg h]
    exact cmpB_pre p l
/-- What is behind a text, and does not begin with it, is behind all that do. -/
theorem cmpB_behind : ∀ p o l : List UInt8, Lib.compareBytes o p > 0 → (¬ ∃ m, o = p ++ m) → Lib.compareBytes (p ++ l) o < 0
  | [], o, _, _, hn => absurd ⟨o, rfl⟩ hn
  | a :: p, [], l, h, _ => by simp [Lib.compareBytes] at h
  | a :: p, b :: o, l, h, hn => by
    rw [Lib.compareBytes] at h
    rw [List.cons_append, Lib.compareBytes]
    by_cases h1 : b < a
    · rw [if_pos h1] at h; omega
    · rw [if_neg h1] at h
      by_cases h2 : a < b
      · rw [if_pos h2]; omega
      · rw [if_neg h2] at h
        rw [if_neg h2, if_neg h1]
        refine cmpB_behind p o l h (fun ⟨m, hm⟩ => hn ⟨m, ?_⟩)
        have e : a = b := by
          refine UInt8.toNat_inj.1 ?_
          have h1 : ¬ b.toNat < a.toNat := fun k => h1 (UInt8.lt_iff_toNat_lt.2 k)
          have h2 : ¬ a.toNat < b.toNat := fun k => h2 (UInt8.lt_iff_toNat_lt.2 k)
          omega
        rw [hm, e, List.cons_append]
theorem cmpb_eq (a b : ByteArray) : cmpb a b = Lib.compareBytes a.data.toList b.data.toList := by unfold cmpb; rw [Lib.cmp_eq]
/-- The order of texts that may be. -/
theorem cmpS_text {s s' : ByteArray} (h : s.size ≤ 65535) (h' : s'.size ≤ 65535) : cmpS 2 0 0 s 2 0 0 s' = cmpb s s' := by
  have m : ∀ t : ByteArray, t.size ≤ 65535 → clS 2 0 0 t = 3 := fun t ht => by
    unfold clS mayS
    rw [if_pos (by simp [ht])]
    rfl
  unfold cmpS
  rw [m s h, m s' h']
  rfl
theorem may_text {s : ByteArray} (h : s.size ≤ 65535) : mayS 2 0 0 s = true := by unfold mayS; simp [h]
theorem may_null : mayS 0 0 0 (⟨#[]⟩ : ByteArray) = true := by decide +kernel
/-- Comparisons of texts. -/
theorem test_cmp (op : Int) {s c : ByteArray} (h : s.size ≤ 65535) (hc : c.size ≤ 65535) : testS 1 op 2 0 0 c [] 2 0 0 s = if stS (cmpb s c) op = true then 1 else 0 := by
  unfold testS
  rw [may_text h, if_neg (by simp), if_neg (by decide)]
  unfold sayS
  rw [if_pos rfl, cmpS_text h hc]
theorem test_pre {s c : ByteArray} (h : s.size ≤ 65535) : testS 5 0 2 0 0 c [] 2 0 0 s = if preS s c = true then 1 else 0 := by
  unfold testS
  rw [may_text h, if_neg (by simp), if_neg (by decide)]
  unfold sayS
  simp
theorem test_null (c : ByteArray) : testS 5 0 2 0 0 c [] 0 0 0 (⟨#[]⟩ : ByteArray) = 2 := by
  unfold testS
  rw [may_null]
  simp
end Go.Proofs.Ytkedejphebfneaa.V
end
section
/- AtomBegins: of any texts what begins with a text is not ahead of it, nor behind one that is behind it and does not begin with it. No conditions. -/
namespace Go.Proofs.Ytkedejphebfneaa.Pure
open Go.RowKit Go.Proofs.Ytkedejphebfneaa.Pa Go.Proofs.Ytkedejphebfneaa.V Go.Proofs.Ytkedejphebfneaa.L Go.Proofs.YtkedejphebfneaaW.PrintWords Go.Proofs.YtkedejphebfneaaW.PrintLast Go.Proofs.YtkedejphebfneaaW.PrintMore
theorem AtomBegins (a0 : ByteArray) (a1 : ByteArray) (a2 : ByteArray) (h0 : a0.size ≤ 140737488351232) (h1 : a1.size ≤ 140737488351232) (h2 : a2.size ≤ 140737488351232) : ∃ k, colonnadelaw18_AtomBegins.f k a0 a1 a2 = some true := by
  apply Evn.ex
  unfold colonnadelaw18_AtomBegins.f
  refine Evn.bind known_f (Evn.pos rfl ?_)
  have big : Evn (fun k => colonnadelaw18_AtomBegins.j0 k a0 a1 a2 true) true := Evn.succ (fun n => by rw [colonnadelaw18_AtomBegins.j0]) (Evn.pos rfl (Evn.now _))
  by_cases s0 : a0.size ≤ 65535
  case neg => exact Evn.pos (by omega) big
  refine Evn.neg (by omega) ?_
  by_cases s1 : a1.size ≤ 65535
  case neg => exact Evn.pos (by omega) big
  refine Evn.neg (by omega) ?_
  by_cases s2 : a2.size ≤ 65535
  case neg => rw [decide_eq_true (by omega)]; exact big
  rw [decide_eq_false (by omega)]
  have okn : okL [] := fun c hc => by simp at hc
  have w : ∀ t : ByteArray, colonnadelaw18_word.f t = some (2, 0, 0, t) := fun t => rfl
  have cm : ∀ (op : Int) (t : ByteArray), colonnadelaw18_compared.f op 2 0 0 t = some (1, (⟨#[99]⟩ : ByteArray), op, 2, 0, 0, t, [], []) := fun op t => rfl
  have T := fun (op : Int) (s c : ByteArray) (h : s.size ≤ 65535) (hc : c.size ≤ 65535) => test_cmp op h hc ▸ test_f 1 (⟨#[99]⟩ : ByteArray) op 2 0 c [] [] 2 0 (r := 0) s (a5 := 0) (by decide) okn (by decide)
  have P := fun (s c : ByteArray) (h : s.size ≤ 65535) => test_pre (c := c) h ▸ test_f 5 (⟨#[99]⟩ : ByteArray) 0 2 0 c [] [] 2 0 (r := 0) s (a5 := 0) (by decide) okn (by decide)
  have Z := fun (c : ByteArray) => test_null c ▸ test_f 5 (⟨#[99]⟩ : ByteArray) 0 2 0 c [] [] 0 0 (r := 0) (⟨#[]⟩ : ByteArray) (a5 := 0) (by decide) okn (by decide)
  refine Evn.succ (fun n => by rw [colonnadelaw18_AtomBegins.j0]) (Evn.neg (by decide) ?_)
  simp only [w, Option.bind_some, begins_f]
  refine Evn.bind (P a1 a0 s1) ?_
  have same : ∀ b : Bool, ((if b = true then (1 : Int) else 0) == 1) = b := by decide
  simp only [same]
  refine Evn.neg (by simp) (Evn.bind (P a2 a0 s2) ?_)
  simp only [same]
  refine Evn.neg (by simp) (Evn.bind (Z a0) ?_)
  refine Evn.succ (fun n => by rw [colonnadelaw18_AtomBegins.j1]) (Evn.neg (by decide) ?_)
  by_cases hp : preS a1 a0 = true
  case neg => exact Evn.neg hp (Evn.now _)
  refine Evn.pos hp ?_
  simp only [w, cm, Option.bind_some, begins_f]
  refine Evn.bind (T 6 a1 a0 s1 s0) ?_
  obtain ⟨l, hl⟩ := (pre_iff _ _).1 hp
  have g6 : stS (cmpb a1 a0) 6 = true := by
    have := cmpB_pre a0.data.toList l
    rw [cmpb_eq, hl]
    simp [stS]; omega
  rw [g6]
  refine Evn.pos rfl ?_
  by_cases hq : preS a2 a0 = true
  · exact Evn.pos hq (Evn.now _)
  refine Evn.neg hq (Evn.bind (T 5 a2 a0 s2 s0) ?_)
  by_cases h5 : stS (cmpb a2 a0) 5 = true
  · rw [if_pos h5]
    refine Evn.pos rfl (Evn.bind (T 3 a1 a2 s1 s2) ?_)
    have h5' : Lib.compareBytes a2.data.toList a0.data.toList > 0 := by
      rw [cmpb_eq] at h5
      simpa [stS] using h5
    have g3 : stS (cmpb a1 a2) 3 = true := by
      have := cmpB_behind a0.data.toList a2.data.toList l h5' (fun hm => hq ((pre_iff _ _).2 hm))
      rw [cmpb_eq, hl]
      simp [stS]; omega
    rw [g3]
    exact Evn.now _
  · rw [if_neg h5]
    exact Evn.neg (by decide) (Evn.now _)
end Go.Proofs.Ytkedejphebfneaa.Pure
end
section
/- AtomBegins: the row, out of the law's walk and its plain law. -/
namespace Go.Proofs.Ytkedejphebfneaa.atomBegins
open Go.ChangeShapes Go.WideShapes Go.ChangeAt Go.RowKit Go.Proofs.Ytkedejphebfneaa.O Go.Proofs.Ytkedejphebfneaa.Pa Go.Proofs.YtkedejphebfneaaW.PrintWords
open Go.ChangeMaps (open_string shut_string)
set_option linter.unusedVariables false
set_option linter.unusedSimpArgs false
theorem own : ownKnob Try.prog.godebug = none := by kernel_rfl
theorem laidOut : laidOutB Try.prog = true := by kernel_rfl
set_option maxRecDepth 100000 in
theorem lifted (os : Os) (started : os.Started) (H : Type) (enc : TypeId × Value → H) :
    ReturnsInHanded {} Try.checked os 8 .any (Rows.atomBeginsSpec.pre6 enc Try.prog Try.f8 Rows.atomBeginsRow.domain false) (Rows.atomBeginsSpec.post enc Try.prog Try.f8 false true false false) := by
  refine returnsInHanded_of_change_sized (C := Try.checked) own started (by kernel_rfl) Try.func8
    (ChangeSpec.witness6 (enc := enc) (C := Try.checked) false ⟨#[], #[.string ByteArray.empty, .string ByteArray.empty, .string ByteArray.empty], []⟩ 8 (by kernel_rfl) (by kernel_rfl) (by kernel_rfl) (by kernel_rfl)) ?_
  intro W base args ds gs before hval0 hW hcnd hsz0 _
  have hsz : (DataW.weightsEach Try.prog (Try.f8.params.toList ++ Rows.atomBeginsSpec.plain.varTypes Try.prog) (ds ++ gs)).all (· ≤ reachBytes) = true := hsz0
  have hval : ∀ (j : Nat) t v, Try.f8.params[j]? = some t → args[j]? = some v → Value.okWide Try.prog W .any base t v := hval0
  have hW' := hW
  obtain ⟨p, q, hA0, hV, rfl, hfz, hnd⟩ := hW
  have hA : DataW.TrodAll enc Try.prog W 0 (fun _ => true) true Try.f8.params.toList args.toList ds p := hA0
  rw [Try.params8] at hA hval hsz
  obtain ⟨v0, vs0, d0, ds0, p0, q0, hargs, rfl, rfl, h0, r0⟩ := trodAll_cons hA
  obtain ⟨v1, vs1, d1, ds1, p1, q1, rfl, rfl, rfl, h1, r1⟩ := trodAll_cons r0
  obtain ⟨v2, vs2, d2, ds2, p2, q2, rfl, rfl, rfl, h2, r2⟩ := trodAll_cons r1
  obtain ⟨rfl, rfl, rfl⟩ := trodAll_nil r2
  obtain rfl : args = #[v0, v1, v2] := by cases args; simp_all
  obtain ⟨rfl, rfl⟩ := trodVars_none hV
  obtain ⟨a0, rfl, rfl, rfl, y0⟩ := open_string Try.underlying9 (hval 0 9 v0 rfl rfl) h0
  have w0 : a0.size ≤ 140737488351232 := by
    have z := sized_string hsz (j := 0) (t := 9) rfl rfl
    rw [Array.length_toList] at z
    exact z
  obtain ⟨a1, rfl, rfl, rfl, y1⟩ := open_string Try.underlying9 (hval 1 9 v1 rfl rfl) h1
  have w1 : a1.size ≤ 140737488351232 := by
    have z := sized_string hsz (j := 1) (t := 9) rfl rfl
    rw [Array.length_toList] at z
    exact z
  obtain ⟨a2, rfl, rfl, rfl, y2⟩ := open_string Try.underlying9 (hval 2 9 v2 rfl rfl) h2
  have w2 : a2.size ≤ 140737488351232 := by
    have z := sized_string hsz (j := 2) (t := 9) rfl rfl
    rw [Array.length_toList] at z
    exact z
  obtain ⟨k_, hk_⟩ := Pure.AtomBegins a0 a1 a2 w0 w1 w2
  refine (colonnadelaw18_AtomBegins.calls k_ a0 a1 a2 true W  hk_ ⟨rfl⟩).mono fun e W' ⟨he, bel⟩ => ?_
  subst he
  exact ⟨_, rfl, _, _, _, [], _, [], hW', trodAll_mk1 (shut_bool Try.underlying4 _), (trodAll_cons_mk (shut_string Try.underlying9 y0) (trodAll_cons_mk (shut_string Try.underlying9 y1) (trodAll_cons_mk (shut_string Try.underlying9 y2) trodAll_mk0))), rfl, bel.frame _, fun h => by cases h⟩
theorem over : Rows.atomBeginsRow.holds Try.pinned (OpenSpec.ofChange Rows.atomBeginsSpec) :=
  OpenClaim.holds_of_wide 8 Try.f8 rfl rfl rfl rfl rfl rfl rfl ⟨rfl, rfl, rfl, rfl, rfl⟩ rfl rfl rfl rfl rfl (by kernel_rfl) Try.func8 (by kernel_rfl)
    (of_decide_eq_true (by kernel_rfl)) (by unfold Func.isWrapper; first | (rw [if_pos (by decide +kernel)]; kernel_rfl) | (rw [if_neg (by decide +kernel)]; exact ⟨rfl, rfl⟩))
    (fun os started H enc _ => lifted os started H enc)
end Go.Proofs.Ytkedejphebfneaa.atomBegins
namespace Go.Proofs.Ytkedejphebfneaa
/-- The row, under a short name, for the claim. -/
theorem atomBegins_holds : Rows.AtomBeginsSaid := atomBegins.over
#print axioms atomBegins_holds
end Go.Proofs.Ytkedejphebfneaa
end
