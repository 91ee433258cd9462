/- The texts of AtomBounds, merged: part 34. -/
import Derived.Test.YtkedejphebfneaaQAtomBounds33
import Derived.Test.YtkedejphebfneaaQAtomBounds24
/- The document's order of values, plainly. -/
namespace Go.Proofs.Ytkedejphebfneaa.V
open Go.RowKit Go.Proofs.Ytkedejphebfneaa.Pa Go.Proofs.Ytkedejphebfneaa.L Go.Proofs.Ytkedejphebfneaa.F Go.Proofs.YtkedejphebfneaaW.PrintWords Go.Proofs.YtkedejphebfneaaW.PrintLast Go.Proofs.YtkedejphebfneaaW.PrintMore
set_option linter.unusedVariables false
set_option linter.unusedSimpArgs false
theorem sign_f (a b : Int) : colonnaderef18_sign.f (decide (a < b)) (decide (a > b)) = some (sgI a b) := by
 unfold colonnaderef18_sign.f sgI
 by_cases h : a < b <;> by_cases h2 : b < a <;> simp [h, h2]
theorem sign_ne {a b : Int} (hne : a ≠ b) : colonnaderef18_sign.f (decide (a < b)) true = some (sgI a b) := by
 unfold colonnaderef18_sign.f sgI
 by_cases h : a < b <;> by_cases h2 : b < a <;> simp [h, h2] <;> omega
theorem mixed_f (i : Int) {f : Nat} (hf : rg f < infR) : colonnaderef18_mixed.f i f = some (mxS i f) := by
 unfold colonnaderef18_mixed.f mxS agS
 by_cases h1 : fge f 4890909195324358656 = true
 ·rw [if_pos h1]; simp [h1]
 rw [if_neg h1]
 by_cases h2 : flt f 14114281232179134464 = true
 ·rw [if_pos h2]; simp [h1, h2]
 rw [if_neg h2]
 obtain ⟨e, l1, l2⟩ := int_of hf (by simpa using h1) (by simpa using h2)
 have hk : fintok f = true := by unfold fintok; rw [e]; rfl
 have hv : fint f = trunc f := by unfold fint; rw [e]; rfl
 rw [if_pos hk, hv]
 simp only [h1, h2, if_false, Bool.false_eq_true]
 by_cases h3 : i = trunc f
 ·have hr := real_of l1 l2
  rw [if_pos h3, fgt_fin hf hr, flt_fin hf hr, if_neg (fun q : ¬ _ = _ => q h3)]
  unfold sgI
  by_cases h : val (freal (trunc f)) < val f <;> by_cases h2 : val f < val (freal (trunc f)) <;> simp [h, h2]
 ·rw [if_neg h3, sign_ne h3, if_pos h3, if_neg (fun q => h3 ((sgI_zero _ _).1 q))]
  rfl
theorem rclass_f (k i : Int) {r : Nat} (s : ByteArray) (h : r < 18446744073709551616) : colonnaderef18_class.f k i r s = some (clS k i r s) := by
 unfold colonnaderef18_class.f clS colonnaderef18_May.f
 rw [mayR_eq _ _ _ h, Option.bind_some]
 by_cases hm : mayS k i r s = true
 ·rw [if_pos hm, if_pos hm]
  by_cases h0 : k = 0
  ·rw [if_pos h0, if_pos h0]
  ·by_cases h2 : k = 2 <;> simp [h0, h2]
 ·rw [if_neg hm, if_neg hm]
theorem sign_bytes : ∀ x y : List UInt8, colonnaderef18_sign.f (Op.bytesLess x y) (Op.bytesLess y x) = some (Lib.compareBytes x y)
 | [], [] => rfl
 | [], _ :: _ => rfl
 | _ :: _, [] => rfl
 | a :: x, b :: y => by
  have ih := sign_bytes x y
  rw [Op.bytesLess, Op.bytesLess, Lib.compareBytes]
  rcases Nat.lt_trichotomy a.toNat b.toNat with h | h | h
  ·have h1 : a < b := UInt8.lt_iff_toNat_lt.2 h
   simp [h1, colonnaderef18_sign.f]
  ·have h5 : a = b := UInt8.toNat_inj.1 h
   subst h5
   have h2 : ¬ a < a := fun k => by have := UInt8.lt_iff_toNat_lt.1 k; omega
   simp [h2]
   exact ih
  ·have h1 : ¬ a < b := fun k => by have := UInt8.lt_iff_toNat_lt.1 k; omega
   have h2 : b < a := UInt8.lt_iff_toNat_lt.2 h
   have h3 : (a == b) = false := beq_eq_false_iff_ne.2 (fun k => by rw [k] at h; omega)
   simp [h1, h2, h3, colonnaderef18_sign.f]
theorem cmpb_sign (a b : ByteArray) : colonnaderef18_sign.f (Op.bytesLess a.toList b.toList) (Op.bytesLess b.toList a.toList) = some (cmpb a b) := by
 have e : ∀ c : ByteArray, c.toList = c.data.toList := fun c => by rw [ByteArray.toList_eq]
 rw [e a, e b, sign_bytes]
 unfold cmpb
 rw [Lib.cmp_eq]
theorem rcompare_f (k i : Int) {r : Nat} (s : ByteArray) (k' i' : Int) {r' : Nat} (s' : ByteArray) (h : r < 18446744073709551616) (h' : r' < 18446744073709551616) : Evn (fun n => colonnaderef18_Compare.f n k i r s k' i' r' s') (cmpS k i r s k' i' r' s') := by
 unfold colonnaderef18_Compare.f cmpS
 rw [rclass_f k i s h, rclass_f k' i' s' h']
 simp only [Option.bind_some]
 by_cases hne : clS k i r s ≠ clS k' i' r' s'
 ·rw [if_pos hne, sign_ne hne]
  exact Evn.neg hne (Evn.now _)
 rw [if_neg hne]
 have he : clS k i r s = clS k' i' r' s' := by simpa using hne
 refine Evn.pos he ?_
 rcases class_range k i r s with hc | hc | hc | hc
 ·rw [hc, if_pos (by decide)]; exact Evn.neg (by decide) (Evn.neg (by decide) (Evn.now _))
 ·rw [hc, if_pos (by decide)]; exact Evn.neg (by decide) (Evn.neg (by decide) (Evn.now _))
 ·have c1 := class_two hc
  have c2 := class_two (he ▸ hc)
  rw [hc, if_neg (by decide)]
  refine Evn.neg (by decide) ?_
  refine Evn.pos rfl ?_
  rcases c1 with rfl | ⟨rfl, f1⟩
  ·rw [if_neg (by decide)]
   rcases c2 with rfl | ⟨rfl, f2⟩
   ·rw [if_pos ⟨rfl, rfl⟩]
    refine Evn.pos rfl ?_
    refine Evn.succ (fun n => by rw [colonnaderef18_Compare.j0]) ?_
    refine Evn.pos rfl ?_
    rw [sign_f]
    exact Evn.now _
   ·rw [if_neg (by omega), if_neg (by omega), if_pos rfl]
    refine Evn.pos rfl ?_
    refine Evn.succ (fun n => by rw [colonnaderef18_Compare.j0]) ?_
    refine Evn.neg (by decide) ?_
    refine Evn.neg (by decide) ?_
    refine Evn.succ (fun n => by rw [colonnaderef18_Compare.j1]) ?_
    refine Evn.neg (by decide) ?_
    refine Evn.pos rfl ?_
    rw [mixed_f i f2]
    exact Evn.now _
  ·rw [if_neg (by decide)]
   rcases c2 with rfl | ⟨rfl, f2⟩
   ·rw [if_neg (by omega), if_neg (by omega), if_neg (by decide)]
    refine Evn.neg (by decide) ?_
    refine Evn.succ (fun n => by rw [colonnaderef18_Compare.j0]) ?_
    refine Evn.neg (by decide) ?_
    refine Evn.pos rfl ?_
    refine Evn.succ (fun n => by rw [colonnaderef18_Compare.j1]) ?_
    refine Evn.neg (by decide) ?_
    refine Evn.neg (by decide) ?_
    rw [mixed_f i' f1]
    have e : wrap64 (-mxS i' r) = -mxS i' r := by
     unfold mxS
     rcases agS_range i' r with q | q | q <;> rw [q] <;> simp [wrap64_in]
    simp only [Option.bind_some, e]
    exact Evn.now _
   ·rw [if_neg (by omega), if_pos ⟨rfl, rfl⟩]
    refine Evn.neg (by decide) ?_
    refine Evn.succ (fun n => by rw [colonnaderef18_Compare.j0]) ?_
    refine Evn.neg (by decide) ?_
    refine Evn.pos rfl ?_
    refine Evn.succ (fun n => by rw [colonnaderef18_Compare.j1]) ?_
    refine Evn.pos rfl ?_
    rw [flt_fin f1 f2, fgt_fin f1 f2, sign_f]
    exact Evn.now _
 ·rw [hc, if_neg (by decide), if_pos (class_three hc)]
  refine Evn.pos rfl ?_
  rw [cmpb_sign]
  exact Evn.now _
end Go.Proofs.Ytkedejphebfneaa.V
