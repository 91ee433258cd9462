/- The texts of AtomBounded, merged: part 23. -/
import Derived.Test.YtkedejphebfneaaQAtomBounded22
/- Reals by their bits: their difference, their whole part, a whole number as a real. No program in sight. -/
namespace Go.Proofs.Ytkedejphebfneaa.F
open Go.Proofs.YtkedejphebfneaaW.PrintWords
set_option linter.unusedVariables false
set_option linter.unusedSimpArgs false
theorem cut_none (neg : Bool) (n : Nat) : Ieee.Toward.even.cut neg n 0 = n := by
  unfold Ieee.Toward.cut
  simp [Nat.mod_one]
theorem word_rg (neg : Bool) {r : Nat} (h : r < 9223372036854775808) : rg (Ieee.double.word neg r) = r ∧ sg (Ieee.double.word neg r) = neg := by
  unfold Ieee.Format.word rg sg
  rw [e_sw]
  cases neg
  · simp only [Bool.false_eq_true, if_false]
    rw [Nat.div_eq_of_lt h]
    exact ⟨Nat.mod_eq_of_lt h, rfl⟩
  · simp only [if_true]
    have : (9223372036854775808 + r) / 9223372036854775808 = 1 := by omega
    rw [this]
    exact ⟨by omega, rfl⟩
theorem nearest_pos (neg : Bool) {mag : Nat} {place : Int} (hm : 0 < mag) (hp : -1074 ≤ place) : ∃ r, 0 < r ∧ r ≤ infR ∧ Ieee.double.nearest neg mag place = Ieee.double.word neg r := by
  unfold Ieee.Format.nearest
  rw [if_neg (by omega)]
  refine ⟨_, ?_, Nat.min_le_right _ _, rfl⟩
  rw [e_lp, e_fb, e_bin]
  have hi : (0 : Nat) < infR := by decide
  refine Nat.lt_min.2 ⟨?_, hi⟩
  generalize hl : max (place + (mag.log2 : Int) - (52 : Nat)) (-1074) = last
  by_cases h : last = -1074
  · have e0 : (last - place).toNat = 0 := by omega
    rw [e0, cut_none, Nat.shiftLeft_eq]
    have := Nat.mul_pos hm (Nat.two_pow_pos (place - last).toNat)
    omega
  · have : 1 ≤ (last - -1074).toNat := by omega
    have : 1 * 4503599627370496 ≤ (last - -1074).toNat * 4503599627370496 := Nat.mul_le_mul_right _ this
    omega
theorem sub_fin {a b : Nat} (ha : rg a < infR) (hb : rg b < infR) : ∃ r, fbits .sub a b = some r ∧ rg r ≤ infR ∧ (rg r = 0 ↔ val a = val b) ∧ (rg r ≠ 0 → sg r = decide (val a < val b)) := by
  obtain ⟨m, e, h1, v1⟩ := read_fin ha
  obtain ⟨n, f, h2, v2⟩ := read_fin hb
  unfold fbits
  simp only []
  rw [show FloatKind.f64.format = Ieee.double from rfl]
  unfold Ieee.Format.sub
  rw [h1, h2]
  simp only [Ieee.Datum.opposite, Ieee.Datum.sum, Option.map_some]
  refine ⟨_, rfl, ?_⟩
  have hb1 : (-1074 + (e : Int) - min (-1074 + (e : Int)) (-1074 + (f : Int))).toNat = e - min e f := by omega
  have hb2 : (-1074 + (f : Int) - min (-1074 + (e : Int)) (-1074 + (f : Int))).toNat = f - min e f := by omega
  rw [hb1, hb2]
  have ht : (Ieee.signed (sg a) m (e - min e f) + Ieee.signed (!sg b) n (f - min e f)) * ((2 ^ min e f : Nat) : Int) = val a - val b := by
    rw [Int.add_mul, scale_one _ _ _ _ (Nat.min_le_left _ _), scale_one _ _ _ _ (Nat.min_le_right _ _), v1, v2]
    unfold val
    cases sg b <;> simp <;> omega
  generalize Ieee.signed (sg a) m (e - min e f) + Ieee.signed (!sg b) n (f - min e f) = t at ht ⊢
  have hp : (0 : Int) < ((2 ^ min e f : Nat) : Int) := by have := Nat.two_pow_pos (min e f); omega
  generalize ((2 ^ min e f : Nat) : Int) = c at ht hp
  have h0 : t = 0 ↔ val a = val b := by
    constructor
    · intro h; rw [h, Int.zero_mul] at ht; omega
    · intro h
      rw [h, Int.sub_self] at ht
      rcases Int.mul_eq_zero.1 ht with h | h
      · exact h
      · omega
  have hn : t < 0 ↔ val a < val b := by
    constructor
    · intro h
      have := Int.mul_neg_of_neg_of_pos h hp
      omega
    · intro h
      rcases Int.lt_trichotomy t 0 with h3 | h3 | h3
      · exact h3
      · rw [h3, Int.zero_mul] at ht; omega
      · have := Int.mul_pos h3 hp; omega
  unfold Ieee.Format.write
  simp only []
  by_cases hz : t = 0
  · have e0 : t.natAbs = 0 := by omega
    rw [e0]
    unfold Ieee.Format.nearest
    rw [if_pos rfl]
    obtain ⟨r1, r2⟩ := word_rg (if t = 0 then sg a && !sg b else decide (t < 0)) (r := 0) (by decide)
    rw [r1]
    exact ⟨Nat.zero_le _, ⟨fun _ => h0.1 hz, fun _ => rfl⟩, fun h => absurd rfl h⟩
  · obtain ⟨r, hr1, hr2, hr3⟩ := nearest_pos (if t = 0 then sg a && !sg b else decide (t < 0)) (mag := t.natAbs) (place := min (-1074 + (e : Int)) (-1074 + (f : Int))) (by omega) (by omega)
    rw [hr3]
    have hi : infR < 9223372036854775808 := by decide
    obtain ⟨r1, r2⟩ := word_rg (if t = 0 then sg a && !sg b else decide (t < 0)) (r := r) (by omega)
    rw [r1, r2]
    refine ⟨hr2, ⟨fun h => by omega, fun h => absurd (h0.2 h) hz⟩, fun _ => ?_⟩
    rw [if_neg hz]
    exact decide_eq_decide.2 hn
theorem flt_zero {r : Nat} (h : rg r ≤ infR) : flt 0 r = (decide (rg r ≠ 0) && !sg r) := by
  rcases Nat.lt_or_ge (rg r) infR with h1 | h1
  · rw [flt_fin rg_zero h1, val_zero]
    by_cases hz : rg r = 0
    · rw [val_eq_zero.2 hz]; simp [hz]
    · have := V_pos (Nat.pos_of_ne_zero hz)
      unfold val
      cases sg r <;> simp [hz] <;> omega
  · have h2 : rg r = infR := by omega
    have h3 : rg r ≠ 0 := by rw [h2]; decide
    unfold flt
    rw [show FloatKind.f64.format = Ieee.double from rfl]
    unfold Ieee.Format.order
    obtain ⟨m, x, h4, _⟩ := read_fin rg_zero
    rw [read_inf h2, h4]
    cases hs : sg r <;> simp [Ieee.Datum.order, h3]
theorem fgt_zero {r : Nat} (h : rg r ≤ infR) : fgt 0 r = (decide (rg r ≠ 0) && sg r) := by
  rcases Nat.lt_or_ge (rg r) infR with h1 | h1
  · rw [fgt_fin rg_zero h1, val_zero]
    by_cases hz : rg r = 0
    · rw [val_eq_zero.2 hz]; simp [hz]
    · have := V_pos (Nat.pos_of_ne_zero hz)
      unfold val
      cases sg r <;> simp [hz] <;> omega
  · have h2 : rg r = infR := by omega
    have h3 : rg r ≠ 0 := by rw [h2]; decide
    unfold fgt
    rw [show FloatKind.f64.format = Ieee.double from rfl]
    unfold Ieee.Format.order
    obtain ⟨m, x, h4, _⟩ := read_fin rg_zero
    rw [read_inf h2, h4]
    cases hs : sg r <;> simp [Ieee.Datum.order, h3]
theorem sub_signs {a b : Nat} (ha : rg a < infR) (hb : rg b < infR) : ∃ r, fbits .sub a b = some r ∧ rg r ≤ infR ∧ flt 0 r = decide (val b < val a) ∧ fgt 0 r = decide (val a < val b) ∧ feq r r = true := by
  obtain ⟨r, h1, h2, h3, h4⟩ := sub_fin ha hb
  refine ⟨r, h1, h2, ?_, ?_, by rw [feq_self, decide_eq_true h2]⟩
  · rw [flt_zero h2]
    by_cases hz : rg r = 0
    · have := h3.1 hz; simp [hz]; omega
    · have hne : val a ≠ val b := fun h => hz (h3.2 h)
      rw [h4 hz]
      by_cases hl : val a < val b
      · simp [hl]; omega
      · simp [hl, hz]; omega
  · rw [fgt_zero h2]
    by_cases hz : rg r = 0
    · have := h3.1 hz; simp [hz]; omega
    · rw [h4 hz]; simp [hz]
theorem div_gen (m e d : Nat) (h : d ≤ e) : m * 2 ^ e / 2 ^ d = m * 2 ^ (e - d) := by
  obtain ⟨c, rfl⟩ := Nat.exists_eq_add_of_le h
  rw [Nat.add_sub_cancel_left, Nat.pow_add, Nat.mul_comm (2 ^ d), ← Nat.mul_assoc, Nat.mul_div_cancel _ (Nat.two_pow_pos d)]
def U : Nat := 2 ^ 1074
theorem cut_trunc (neg : Bool) (n drop : Nat) : Ieee.Toward.zero.cut neg n drop = n / 2 ^ drop := by
  unfold Ieee.Toward.cut
  simp only [Bool.toNat_false, Nat.add_zero]
  rw [Nat.shiftLeft_eq, Nat.one_mul]
  rcases Nat.le_total drop (n.log2 + 2) with h | h
  · rw [Nat.min_eq_left h]
  · rw [Nat.min_eq_right h]
    have h1 := Nat.lt_log2_self (n := n)
    have h2 : 2 ^ (n.log2 + 1) ≤ 2 ^ (n.log2 + 2) := Nat.pow_le_pow_right (by decide) (by omega)
    have h3 : 2 ^ (n.log2 + 2) ≤ 2 ^ drop := Nat.pow_le_pow_right (by decide) h
    rw [Nat.div_eq_of_lt (by omega), Nat.div_eq_of_lt (by omega)]
def trunc (f : Nat) : Int := if sg f then -((V (rg f) / U : Nat) : Int) else ((V (rg f) / U : Nat) : Int)
theorem toInt_fin {f : Nat} (h : rg f < infR) : (FloatKind.f64.decode f).toInt .zero = some (trunc f) := by
  obtain ⟨m, e, h1, v1⟩ := read_fin h
  unfold FloatKind.decode
  rw [show FloatKind.f64.format = Ieee.double from rfl, h1]
  unfold Ieee.Datum.toInt
  simp only [Ieee.Datum.integral]
  rw [cut_trunc, signed_eq, Nat.shiftLeft_eq]
  have hq : m * 2 ^ (-1074 + (e : Int)).toNat / 2 ^ (-(-1074 + (e : Int))).toNat = V (rg f) / U := by
    rw [← v1]
    unfold U
    rcases Nat.le_total 1074 e with he | he
    · have e1 : (-1074 + (e : Int)).toNat = e - 1074 := by omega
      have e2 : (-(-1074 + (e : Int))).toNat = 0 := by omega
      rw [e1, e2, Nat.pow_zero, Nat.div_one]
      rw [div_gen m e 1074 he]
    · have e1 : (-1074 + (e : Int)).toNat = 0 := by omega
      have e2 : (-(-1074 + (e : Int))).toNat = 1074 - e := by omega
      rw [e1, e2, Nat.pow_zero, Nat.mul_one]
      have : (2 : Nat) ^ 1074 = 2 ^ (1074 - e) * 2 ^ e := by rw [← Nat.pow_add]; congr 1; omega
      rw [this, Nat.mul_div_mul_right _ _ (Nat.two_pow_pos _)]
  rw [hq]
  unfold trunc
  simp
theorem U_pos : 0 < U := by
  unfold U
  exact Nat.two_pow_pos 1074
theorem V_two63 : V 4890909195324358656 = 9223372036854775808 * U := by decide +kernel
theorem trunc_in {f : Nat} (h1 : val f < 9223372036854775808 * (U : Int)) (h2 : -(9223372036854775808 * (U : Int)) ≤ val f) : -9223372036854775808 ≤ trunc f ∧ trunc f ≤ 9223372036854775807 := by
  have hU := U_pos
  unfold trunc
  unfold val at h1 h2
  cases hs : sg f
  · rw [hs, if_neg (by decide)] at h1 h2
    rw [if_neg (by decide)]
    generalize V (rg f) = v at *
    generalize U = u at *
    have h3 : v < u * 9223372036854775808 := by omega
    have h4 := Nat.div_lt_of_lt_mul h3
    generalize v / u = q at *
    omega
  · rw [hs, if_pos rfl] at h1 h2
    rw [if_pos rfl]
    generalize V (rg f) = v at *
    generalize U = u at *
    have h3 : v < u * 9223372036854775809 := by omega
    have h4 := Nat.div_lt_of_lt_mul h3
    generalize v / u = q at *
    omega
theorem int_of {f : Nat} (h : rg f < infR) (h1 : fge f 4890909195324358656 = false) (h2 : flt f 14114281232179134464 = false) : fintv f = some (trunc f) ∧ -9223372036854775808 ≤ trunc f ∧ trunc f ≤ 9223372036854775807 := by
  have a1 : rg 4890909195324358656 < infR := by decide
  have a2 : rg 14114281232179134464 < infR := by decide
  rw [fge_fin h a1] at h1
  rw [flt_fin h a2] at h2
  have h1 := of_decide_eq_false h1
  have h2 := of_decide_eq_false h2
  have b1 : val 4890909195324358656 = 9223372036854775808 * (U : Int) := by
    unfold val
    rw [show sg 4890909195324358656 = false by decide, show rg 4890909195324358656 = 4890909195324358656 by decide, V_two63]
    simp
  have b2 : val 14114281232179134464 = -(9223372036854775808 * (U : Int)) := by
    unfold val
    rw [show sg 14114281232179134464 = true by decide, show rg 14114281232179134464 = 4890909195324358656 by decide, V_two63]
    simp
  rw [b1] at h1
  rw [b2] at h2
  have hb := trunc_in (f := f) (by omega) (by omega)
  refine ⟨?_, hb⟩
  unfold fintv
  simp only [toInt_fin h]
  have m1 : IntKind.i64.min = -9223372036854775808 := by decide +kernel
  have m2 : IntKind.i64.max = 9223372036854775807 := by decide +kernel
  rw [m1, m2, if_pos hb]
theorem cut_le (neg : Bool) (n drop : Nat) (h : drop ≤ n.log2 + 2) : Ieee.Toward.even.cut neg n drop ≤ n / 2 ^ drop + 1 := by
  unfold Ieee.Toward.cut
  simp only []
  rw [Nat.min_eq_left h, Nat.shiftLeft_eq, Nat.one_mul]
  have : ∀ b : Bool, b.toNat ≤ 1 := by decide
  exact Nat.add_le_add_left (this _) _
theorem real_of {n : Int} (h1 : -9223372036854775808 ≤ n) (h2 : n ≤ 9223372036854775807) : rg (freal n) < infR := by
  unfold freal FloatKind.nearest FloatKind.encode
  rw [show FloatKind.f64.format = Ieee.double from rfl]
  unfold Ieee.Format.write
  simp only []
  generalize hm : n.natAbs = mag
  have hm2 : mag ≤ 9223372036854775808 := by omega
  unfold Ieee.Format.nearest
  by_cases h0 : mag = 0
  · rw [if_pos h0, (word_rg _ (by decide)).1]; decide
  · rw [if_neg h0, e_lp, e_fb, e_bin, e_inf]
    have hlog : mag.log2 ≤ 63 := by
      have : mag.log2 < 64 := (Nat.log2_lt h0).2 (by have : (2 : Nat) ^ 64 = 18446744073709551616 := by decide
                                                     omega)
      omega
    have hself := Nat.lt_log2_self (n := mag)
    simp only []
    have hlast : max ((0 : Int) + (mag.log2 : Int) - (52 : Nat)) (-1074) = (mag.log2 : Int) - 52 := by omega
    rw [hlast]
    have hk : Ieee.Toward.even.cut (decide (n < 0)) (mag <<< ((0 : Int) - ((mag.log2 : Int) - 52)).toNat) (((mag.log2 : Int) - 52) - 0).toNat ≤ 9007199254740992 := by
      rcases Nat.le_total 52 mag.log2 with hl | hl
      · have e1 : ((0 : Int) - ((mag.log2 : Int) - 52)).toNat = 0 := by omega
        have e2 : (((mag.log2 : Int) - 52) - 0).toNat = mag.log2 - 52 := by omega
        rw [e1, e2, Nat.shiftLeft_zero]
        refine Nat.le_trans (cut_le _ _ _ (by omega)) ?_
        have : mag / 2 ^ (mag.log2 - 52) < 9007199254740992 := by
          refine Nat.div_lt_of_lt_mul ?_
          have : 2 ^ (mag.log2 + 1) = 2 ^ (mag.log2 - 52) * 9007199254740992 := by
            rw [show (9007199254740992 : Nat) = 2 ^ 53 by decide, ← Nat.pow_add]; congr 1; omega
          omega
        omega
      · have e1 : ((0 : Int) - ((mag.log2 : Int) - 52)).toNat = 52 - mag.log2 := by omega
        have e2 : (((mag.log2 : Int) - 52) - 0).toNat = 0 := by omega
        rw [e1, e2, cut_none, Nat.shiftLeft_eq]
        have : 2 ^ (mag.log2 + 1) * 2 ^ (52 - mag.log2) = 9007199254740992 := by
          rw [show (9007199254740992 : Nat) = 2 ^ 53 by decide, ← Nat.pow_add]; congr 1; omega
        have := Nat.mul_lt_mul_of_pos_right hself (Nat.two_pow_pos (52 - mag.log2))
        omega
    generalize Ieee.Toward.even.cut (decide (n < 0)) (mag <<< ((0 : Int) - ((mag.log2 : Int) - 52)).toNat) (((mag.log2 : Int) - 52) - 0).toNat = kept at hk
    have ht : ((mag.log2 : Int) - 52 - -1074).toNat ≤ 1085 := by omega
    have hr : min (((mag.log2 : Int) - 52 - -1074).toNat * 4503599627370496 + kept) 9218868437227405312 < infR := by
      refine Nat.lt_of_le_of_lt (Nat.min_le_left _ _) ?_
      have := Nat.mul_le_mul_right 4503599627370496 ht
      unfold infR
      omega
    rw [(word_rg _ (Nat.lt_trans hr (by decide))).1]
    exact hr
theorem feq_zero (r : Nat) : feq r 0 = decide (rg r = 0) := by
  rcases Nat.lt_trichotomy (rg r) infR with h | h | h
  · rw [feq_fin h rg_zero, val_zero]
    exact decide_eq_decide.2 val_eq_zero
  · rw [decide_eq_false (by rw [h]; decide)]
    unfold feq
    rw [show FloatKind.f64.format = Ieee.double from rfl]
    unfold Ieee.Format.order
    obtain ⟨m, x, h4, _⟩ := read_fin rg_zero
    rw [read_inf h, h4]
    cases sg r <;> rfl
  · rw [decide_eq_false (by intro k; rw [k] at h; revert h; decide)]
    unfold feq
    rw [show FloatKind.f64.format = Ieee.double from rfl, order_nan (.inl h)]
    rfl
theorem self_sub (r : Nat) : (rg r < infR ∧ fok .sub r r = true ∧ feq (fval .sub r r) 0 = true) ∨ (infR ≤ rg r ∧ fok .sub r r = false) := by
  rcases Nat.lt_or_ge (rg r) infR with h | h
  · left
    obtain ⟨d, h1, h2, h3, h4⟩ := sub_fin h h
    refine ⟨h, by unfold fok; rw [h1]; rfl, ?_⟩
    have : fval .sub r r = d := by unfold fval; rw [h1]; rfl
    rw [this, feq_zero, decide_eq_true (h3.2 rfl)]
  · right
    refine ⟨h, ?_⟩
    unfold fok fbits
    simp only []
    rw [show FloatKind.f64.format = Ieee.double from rfl]
    unfold Ieee.Format.sub
    rcases Nat.lt_or_ge infR (rg r) with h1 | h1
    · obtain ⟨t, e⟩ := read_nan h1
      rw [e]; rfl
    · rw [read_inf (show rg r = infR by omega)]
      cases sg r <;> rfl
theorem one_div {z : Nat} (h : rg z = 0) : ∃ r, fbits .quo 4607182418800017408 z = some r ∧ rg r = infR ∧ sg r = sg z := by
  have h1 : Ieee.double.read 4607182418800017408 = .number false 4503599627370496 (-52) := by decide +kernel
  have hz : rg z < infR := by rw [h]; decide
  obtain ⟨m, e, h2, v2⟩ := read_fin hz
  rw [h, V_zero] at v2
  have hm : m = 0 := by
    rcases Nat.mul_eq_zero.1 v2 with h | h
    · exact h
    · have := Nat.two_pow_pos e; omega
  subst hm
  unfold fbits
  simp only []
  rw [show FloatKind.f64.format = Ieee.double from rfl]
  unfold Ieee.Format.div
  rw [h1, h2]
  simp only [Ieee.Datum.quotient]
  rw [if_pos trivial, if_neg (by decide)]
  refine ⟨_, rfl, ?_⟩
  unfold Ieee.Format.write
  simp only []
  rw [e_inf]
  have := word_rg (false ^^ sg z) (r := 9218868437227405312) (by decide)
  exact ⟨this.1, by rw [this.2]; simp⟩
end Go.Proofs.Ytkedejphebfneaa.F
