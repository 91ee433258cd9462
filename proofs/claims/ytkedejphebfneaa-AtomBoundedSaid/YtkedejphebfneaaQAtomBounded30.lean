/- The texts of AtomBounded, merged: part 30. -/
import Derived.Test.YtkedejphebfneaaQAtomBounded26
import Derived.Test.YtkedejphebfneaaQAtomBounded23
import Derived.Lib.Bytealg
import Derived.Test.YtkedejphebfneaaQAtomBounded6
/- The order of values: the program's and the document's are one. Plain: no program in sight. -/
namespace Go.Proofs.Ytkedejphebfneaa.V
open Go.RowKit Go.Proofs.Ytkedejphebfneaa.Pa Go.Proofs.Ytkedejphebfneaa.L Go.Proofs.Ytkedejphebfneaa.F Go.Proofs.YtkedejphebfneaaW.PrintWords Go.Proofs.YtkedejphebfneaaW.PrintLast Go.Proofs.YtkedejphebfneaaW.PrintMore
set_option linter.unusedVariables false
set_option linter.unusedSimpArgs false
def sgI (x y : Int) : Int := if x < y then -1 else if y < x then 1 else 0
def agS (i : Int) (f : Nat) : Int := if fge f 4890909195324358656 = true then -1 else if flt f 14114281232179134464 = true then 1 else if i ≠ trunc f then sgI i (trunc f) else sgI (val (freal (trunc f))) (val f)
def mxS (i : Int) (f : Nat) : Int := if agS i f = 0 then -1 else agS i f
def clS (k i : Int) (r : Nat) (s : ByteArray) : Int := if mayS k i r s = true then (if k = 0 then 1 else if k = 2 then 3 else 2) else 0
def cmpS (k i : Int) (r : Nat) (s : ByteArray) (k' i' : Int) (r' : Nat) (s' : ByteArray) : Int :=
 if clS k i r s ≠ clS k' i' r' s' then sgI (clS k i r s) (clS k' i' r' s') else if clS k i r s < 2 then 0 else if k = 2 then cmpb s s'
 else if k = 1 ∧ k' = 1 then sgI i i' else if k = 3 ∧ k' = 3 then sgI (val r) (val r') else if k = 1 then mxS i r' else -mxS i' r
theorem cmp_int (a b : Int) : cmp_Compare_int.f a b = some (sgI a b) := by
 unfold cmp_Compare_int.f cmp_isNaN_int.f sgI
 simp
 by_cases h : a < b <;> by_cases h2 : b < a <;> simp [h, h2]
theorem cmp_int64 (a b : Int) : cmp_Compare_int64.f a b = some (sgI a b) := by
 unfold cmp_Compare_int64.f cmp_isNaN_int64.f sgI
 simp
 by_cases h : a < b <;> by_cases h2 : b < a <;> simp [h, h2]
theorem cmp_real {a b : Nat} (ha : rg a < infR) (hb : rg b < infR) : cmp_Compare_float64.f a b = some (sgI (val a) (val b)) := by
 unfold cmp_Compare_float64.f cmp_isNaN_float64.f sgI
 rw [feq_fin ha ha, feq_fin hb hb, flt_fin ha hb, fgt_fin ha hb]
 simp
 by_cases h : val a < val b <;> by_cases h2 : val b < val a <;> simp [h, h2]
theorem sgI_range (a b : Int) : sgI a b = -1 ∨ sgI a b = 0 ∨ sgI a b = 1 := by unfold sgI; split; simp; split <;> simp
theorem sgI_zero (a b : Int) : sgI a b = 0 ↔ a = b := by unfold sgI; split; omega; split <;> omega
theorem agS_range (i : Int) (f : Nat) : agS i f = -1 ∨ agS i f = 0 ∨ agS i f = 1 := by
 unfold agS
 split; simp
 split; simp
 split <;> exact sgI_range _ _
theorem feq_zz : feq 0 0 = true := by decide +kernel
theorem against_f (i : Int) {f : Nat} (hf : rg f < infR) : value_against.f i f = some (agS i f) := by
 unfold value_against.f agS
 by_cases h1 : fge f 4890909195324358656 = true
 ·rw [if_pos h1, if_pos h1]
 rw [if_neg h1, if_neg h1]
 by_cases h2 : flt f 14114281232179134464 = true
 ·rw [if_pos h2, if_pos h2]
 rw [if_neg h2, if_neg h2]
 obtain ⟨e, l1, l2⟩ := int_of hf (by simpa using h1) (by simpa using h2)
 have hk : fintok f = true := by unfold fintok; rw [e]; rfl
 have hv : fint f = trunc f := by unfold fint; rw [e]; rfl
 rw [if_pos hk, hv, cmp_int64, Option.bind_some]
 by_cases h3 : i ≠ trunc f
 ·rw [if_pos h3, if_neg (fun q => h3 ((sgI_zero _ _).1 q))]
 ·rw [if_neg h3, if_pos ((sgI_zero _ _).2 (by simpa using h3))]
  obtain ⟨r, s1, s2, s3, s4, s5⟩ := sub_signs hf (real_of l1 l2)
  have hk2 : fok .sub f (freal (trunc f)) = true := by unfold fok; rw [s1]; rfl
  have hv2 : fval .sub f (freal (trunc f)) = r := by unfold fval; rw [s1]; rfl
  rw [if_pos hk2, hv2]
  unfold cmp_Compare_float64.f cmp_isNaN_float64.f sgI
  rw [feq_zz, s5, s3, s4]
  simp
  by_cases h : val (freal (trunc f)) < val f <;> by_cases h2 : val f < val (freal (trunc f)) <;> simp [h, h2]
theorem or_f (a b : Int) (hb : b ≠ 0) : Evn (fun k => cmp_Or_int.f k [a, b]) (if a = 0 then b else a) := by
 unfold cmp_Or_int.f
 refine Evn.succ (fun k => by rw [cmp_Or_int.l0]) ?_
 refine Evn.pos (by simp) (Evn.pos (by decide) (Evn.pos (by simp) ?_))
 have e0 : rd [a, b] 0 = a := rfl
 have ew : wrap64 (0 + 1) = 1 := wrap64_in (by omega) (by omega)
 have e1 : rd [a, b] 1 = b := rfl
 rw [e0]
 by_cases h : a = 0
 ·rw [if_pos h]
  refine Evn.pos h ?_
  rw [ew]
  refine Evn.succ (fun k => by rw [cmp_Or_int.l0]) ?_
  refine Evn.pos (by simp) ?_
  refine Evn.pos (by decide) ?_
  refine Evn.pos (by simp) ?_
  rw [e1]
  exact Evn.neg hb (Evn.now _)
 ·rw [if_neg h]
  exact Evn.neg h (Evn.now _)
theorem class_f (k i : Int) {r : Nat} (s : ByteArray) (h : r < 18446744073709551616) : Evn (fun n => value_class.f n k i r s) (clS k i r s) := by
 unfold value_class.f clS
 refine Evn.bind (may_f k i s h) ?_
 by_cases hm : mayS k i r s = true
 ·refine Evn.pos hm ?_
  rw [if_pos hm]
  by_cases h0 : k = 0
  ·refine Evn.pos h0 ?_
   rw [if_pos h0]; exact Evn.now _
  ·refine Evn.neg h0 ?_
   rw [if_neg h0]
   by_cases h2 : k = 2
   ·refine Evn.pos h2 ?_
    rw [if_pos h2]; exact Evn.now _
   ·refine Evn.neg h2 ?_
    rw [if_neg h2]; exact Evn.now _
 ·refine Evn.neg hm ?_
  rw [if_neg hm]; exact Evn.now _
theorem class_two {k i : Int} {r : Nat} {s : ByteArray} (h : clS k i r s = 2) : k = 1 ∨ (k = 3 ∧ rg r < infR) := by
 unfold clS mayS at h
 split at h
 ·rename_i hm
  have := of_decide_eq_true hm
  rcases this with q | q | q | q
  ·rw [if_pos q.1] at h; omega
  ·exact Or.inl q.1
  ·rw [if_neg (by omega), if_pos q.1] at h; omega
  ·exact Or.inr ⟨q.1, q.2.2.2.1⟩
 ·omega
theorem class_three {k i : Int} {r : Nat} {s : ByteArray} (h : clS k i r s = 3) : k = 2 := by
 unfold clS at h
 split at h
 ·split at h
  ·omega
  ·split at h
   ·assumption
   ·omega
 ·omega
theorem class_range (k i : Int) (r : Nat) (s : ByteArray) : clS k i r s = 0 ∨ clS k i r s = 1 ∨ clS k i r s = 2 ∨ clS k i r s = 3 := by
 unfold clS
 split
 ·split; simp
  split <;> simp
 ·simp
theorem compare_f (k i : Int) {r : Nat} (s : ByteArray) (k' i' : Int) {r' : Nat} (s' : ByteArray) (h : r < 18446744073709551616) (h' : r' < 18446744073709551616) : Evn (fun n => value_Compare.f n k i r s k' i' r' s') (cmpS k i r s k' i' r' s') := by
 unfold value_Compare.f cmpS
 refine Evn.bind (class_f k i s h) (Evn.bind (class_f k' i' s' h') ?_)
 rw [cmp_int]
 simp only [Option.bind_some]
 by_cases hne : clS k i r s ≠ clS k' i' r' s'
 ·rw [if_pos hne]
  exact Evn.neg (fun q => hne ((sgI_zero _ _).1 q)) (Evn.now _)
 rw [if_neg hne]
 have he : clS k i r s = clS k' i' r' s' := by simpa using hne
 refine Evn.pos ((sgI_zero _ _).2 he) (Evn.bind (class_f k i s h) ?_)
 by_cases hlt : clS k i r s < 2
 ·rw [if_pos hlt]; exact Evn.pos hlt (Evn.now _)
 rw [if_neg hlt]
 refine Evn.neg hlt ?_
 by_cases h2 : k = 2
 ·rw [if_pos h2]
  exact Evn.pos h2 (Evn.congr (fun _ => rfl) (Evn.now _))
 rw [if_neg h2]
 refine Evn.neg h2 ?_
 have hc : clS k i r s = 2 := by
  rcases class_range k i r s with q | q | q | q
  ·omega
  ·omega
  ·exact q
  ·exact absurd (class_three q) h2
 have c1 := class_two hc
 have c2 := class_two (he ▸ hc)
 rcases c1 with rfl | ⟨rfl, f1⟩
 ·rcases c2 with rfl | ⟨rfl, f2⟩
  ·rw [if_pos ⟨rfl, rfl⟩]
   refine Evn.pos rfl ?_
   refine Evn.succ (fun n => by rw [value_Compare.j0]) ?_
   refine Evn.pos rfl ?_
   rw [cmp_int64]
   exact Evn.now _
  ·rw [if_neg (by omega), if_neg (by omega), if_pos rfl]
   refine Evn.pos rfl ?_
   refine Evn.succ (fun n => by rw [value_Compare.j0]) ?_
   refine Evn.neg (by decide) ?_
   refine Evn.neg (by decide) ?_
   refine Evn.succ (fun n => by rw [value_Compare.j1]) ?_
   refine Evn.neg (by decide) ?_
   refine Evn.pos rfl ?_
   rw [against_f i f2]
   simp only [Option.bind_some]
   exact Evn.bind (or_f _ _ (by decide)) (Evn.now _)
 ·rcases c2 with rfl | ⟨rfl, f2⟩
  ·rw [if_neg (by omega), if_neg (by omega), if_neg (by decide)]
   refine Evn.neg (by decide) ?_
   refine Evn.succ (fun n => by rw [value_Compare.j0]) ?_
   refine Evn.neg (by decide) ?_
   refine Evn.pos rfl ?_
   refine Evn.succ (fun n => by rw [value_Compare.j1]) ?_
   refine Evn.neg (by decide) ?_
   refine Evn.neg (by decide) ?_
   rw [against_f i' f1]
   simp only [Option.bind_some]
   have e : -mxS i' r = if wrap64 (-agS i' r) = 0 then 1 else wrap64 (-agS i' r) := by
    unfold mxS
    rcases agS_range i' r with q | q | q <;> rw [q] <;> simp [wrap64_in]
   rw [e]
   exact Evn.bind (or_f _ _ (by decide)) (Evn.now _)
  ·rw [if_neg (by omega), if_pos ⟨rfl, rfl⟩]
   refine Evn.neg (by decide) ?_
   refine Evn.succ (fun n => by rw [value_Compare.j0]) ?_
   refine Evn.neg (by decide) ?_
   refine Evn.pos rfl ?_
   refine Evn.succ (fun n => by rw [value_Compare.j1]) ?_
   refine Evn.pos rfl ?_
   rw [cmp_real f1 f2]
   exact Evn.now _
end Go.Proofs.Ytkedejphebfneaa.V
