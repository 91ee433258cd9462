/- The texts of AtomBounded, merged: part 29. -/
import Derived.Test.YtkedejphebfneaaQAtomBounded26
import Derived.Test.YtkedejphebfneaaQAtomBounded27
import Derived.Test.YtkedejphebfneaaQAtomBounded28
/- Check, plainly: the program's answer and the document's are one. No program in sight. -/
namespace Go.Proofs.Ytkedejphebfneaa.V
open Go.RowKit Go.Proofs.Ytkedejphebfneaa.Pa Go.Proofs.Ytkedejphebfneaa.L Go.Proofs.Ytkedejphebfneaa.F Go.Proofs.YtkedejphebfneaaW.PrintWords Go.Proofs.YtkedejphebfneaaW.PrintLast Go.Proofs.YtkedejphebfneaaW.PrintMore
set_option linter.unusedVariables false
set_option linter.unusedSimpArgs false
def colT : List S23 → ByteArray → Option Int
 | [], _ => none
 | c :: cs, s => if c.f0.toList = s.toList then some c.f1 else colT cs s
theorem col_l (l : List S23) (s : ByteArray) (hl : l.length < 9223372036854775808) : ∀ (n i : Nat), l.length - i = n → i ≤ l.length → Evn (fun k => colonnaderef18_column.l0 k l s (i : Int)) ((colT (l.drop i) s).getD 0, (colT (l.drop i) s).isSome)
 | 0, i, hn, hi => by
  refine Evn.succ (fun k => by rw [colonnaderef18_column.l0]) ?_
  rw [List.drop_eq_nil_of_le (by omega)]
  exact Evn.neg (by omega) (Evn.now _)
 | n + 1, i, hn, hi => by
  refine Evn.succ (fun k => by rw [colonnaderef18_column.l0]) ?_
  have hlt : i < l.length := by omega
  have hdr : l.drop i = rd_T23 l i :: l.drop (i + 1) := by rw [List.drop_eq_getElem_cons hlt]; simp [rd_T23, List.getD_eq_getElem?_getD, List.getElem?_eq_getElem hlt]
  rw [hdr, colT]
  refine Evn.pos (by omega) (Evn.pos (by omega) ?_)
  by_cases e : (rd_T23 l i).f0.toList = s.toList
  ·rw [if_pos e]
   exact Evn.pos e (Evn.now _)
  ·rw [if_neg e]
   refine Evn.neg e ?_
   have hw : wrap64 ((i : Int) + 1) = ((i + 1 : Nat) : Int) := by rw [wrap64_in (by omega) (by omega)]; omega
   rw [hw]
   exact col_l l s hl n (i + 1) (by omega) (by omega)
theorem column_f (l : List S23) (s : ByteArray) (hl : l.length < 9223372036854775808) : Evn (fun k => colonnaderef18_column.f k l s) ((colT l s).getD 0, (colT l s).isSome) := col_l l s hl _ 0 rfl (by omega)
theorem find_col (s : ByteArray) : ∀ (l : List S23) (i : Int), 0 ≤ i → (schema_Find.i l s i < 0 ∧ colT l s = none) ∨ ∃ n : Nat, n < l.length ∧ schema_Find.i l s i = i + n ∧ colT l s = some (rd_T23 l n).f1
 | [], i, _ => Or.inl ⟨by rw [schema_Find.i]; omega, rfl⟩
 | c :: cs, i, h => by
  rw [schema_Find.i, colT]
  by_cases e : c.f0.toList = s.toList
  ·rw [if_pos e, if_pos e]
   exact Or.inr ⟨0, by simp, by simp, by simp [rd_T23]⟩
  ·rw [if_neg e, if_neg e]
   rcases find_col s cs (i + 1) (by omega) with ⟨a, b⟩ | ⟨n, a, b, c⟩
   ·exact Or.inl ⟨a, b⟩
   ·refine Or.inr ⟨n + 1, by simp; omega, by omega, ?_⟩
    rw [c]
    simp [rd_T23]
theorem wrong_f (cols : List S23) (at_ : Int) (c : S28) (h : c.f2 < 18446744073709551616) : Evn (fun k => wrongT k cols at_ c) (!mayV c || (c.f0 != (rd_T23 cols at_).f1) || (c.f0 == 0)) := by
 have hm := may_f c.f0 c.f1 c.f3 h
 rw [← mayR_eq _ _ _ h] at hm
 unfold wrongT mayV
 refine Evn.bind hm ?_
 by_cases e : mayR c.f0 c.f1 c.f2 c.f3 = true
 ·refine Evn.pos e ?_
  by_cases z : c.f0 = 0
  ·exact Evn.pos z (by simp [e, z]; exact Evn.now _)
  ·have z1 : (c.f0 == 0) = false := by simpa using z
   exact Evn.neg z (by simp only [e, z1, Bool.not_true, Bool.false_or, Bool.or_false]; exact Evn.now _)
 ·exact Evn.neg e (by simp [e]; exact Evn.now _)
theorem spare_f (a0 : Int) (a1 : ByteArray) (a2 a3 a4 : Int) (a5 : Nat) (a6 : ByteArray) (l7 : List S28) (l8 : List S32) (h : a5 < 18446744073709551616) : Evn (fun k => atom_spare.f k a0 a1 a2 a3 a4 a5 a6 l7 l8) (decide (¬ (0 < l8.length ∨ (a0 ≠ 1 ∧ a2 ≠ 0) ∨ (¬ (a0 = 1 ∨ a0 = 5) ∧ ((a3 == 0) && mayR a3 a4 a5 a6) = false) ∨ (¬ (a0 = 2 ∨ a0 = 3) ∧ 0 < l7.length)))) := by
 have hm := may_f a3 a4 a6 h
 rw [← mayR_eq _ _ _ h] at hm
 have hn : Evn (fun k => atom_none.f k a3 a4 a5 a6) ((a3 == 0) && mayR a3 a4 a5 a6) := by
  unfold atom_none.f
  by_cases z : a3 = 0
  ·refine Evn.pos z (Evn.bind hm ?_)
   have z1 : (a3 == 0) = true := by simpa using z
   rw [z1, Bool.true_and]
   exact Evn.now _
  ·have z1 : (a3 == 0) = false := by simpa using z
   exact Evn.neg z (by rw [z1, Bool.false_and]; exact Evn.now _)
 obtain ⟨K, hK⟩ := hn
 refine ⟨K, fun k hk => ?_⟩
 have e := hK k hk
 unfold atom_spare.f
 simp only [atom_valued.f, atom_listed.f, e]
 generalize ((a3 == 0) && mayR a3 a4 a5 a6) = m
 by_cases h8 : l8.length = 0
 ·by_cases h7 : l7.length = 0
  ·by_cases h2 : a2 = 0 <;> by_cases h1 : a0 = 1 <;> by_cases h5 : a0 = 5 <;> by_cases hl2 : a0 = 2 <;> by_cases hl3 : a0 = 3 <;> cases m <;> simp_all
  ·by_cases h2 : a2 = 0 <;> by_cases h1 : a0 = 1 <;> by_cases h5 : a0 = 5 <;> by_cases hl2 : a0 = 2 <;> by_cases hl3 : a0 = 3 <;> cases m <;> simp_all <;> omega
 ·have q : ¬ (l8.length : Int) = 0 := by omega
  have q2 : 0 < l8.length := by omega
  rw [if_neg q]; simp [q2]
theorem acheck_f (l0 : List S23) (a0 : Int) (a1 : ByteArray) (a2 a3 a4 : Int) (a5 : Nat) (a6 : ByteArray) (l7 : List S28) (l8 : List S32) (h : a5 < 18446744073709551616) (hv : ∀ c ∈ l7, c.f2 < 18446744073709551616) :
  Evn (fun k => atom_Check.f k l0 a0 a1 a2 a3 a4 a5 a6 l7 l8) (rcN ((colT l0 a1).getD 0) (colT l0 a1).isSome a0 a2 a3 (mayR a3 a4 a5 a6) l7 l8.length) := by
 have hs := spare_f a0 a1 a2 a3 a4 a5 a6 l7 l8 h
 unfold atom_Check.f rcN
 simp only [schema_Find.f, atom_is.f, atom_compares.f, atom_valued.f, Option.bind_some]
 have hf : ∃ (at_ : Int), mx (schema_Find.i l0 a1 0) 0 = at_ ∧ decide (schema_Find.i l0 a1 0 ≥ 0) = (colT l0 a1).isSome ∧ ((colT l0 a1).isSome = true → (rd_T23 l0 at_).f1 = (colT l0 a1).getD 0) := by
  refine ⟨_, rfl, ?_⟩
  rcases find_col a1 l0 0 (by omega) with ⟨x, y⟩ | ⟨n, x, y, z⟩
  ·rw [y]; simp; omega
  ·rw [y, z]
   have e : mx ((0 : Int) + n) 0 = n := by unfold mx; omega
   rw [e]
   simp
 obtain ⟨at_, f1, f2, f3⟩ := hf
 rw [f1, f2]
 generalize hth : (colT l0 a1).isSome = th at f3 ⊢
 generalize hki : (colT l0 a1).getD 0 = kind at f3 ⊢
 clear f1 f2 hth hki
 have e15 : (if 1 ≤ a0 then some (decide (a0 ≤ 5)) else some false) = some (decide (1 ≤ a0 ∧ a0 ≤ 5)) := by
  by_cases q : 1 ≤ a0 <;> simp [q]
 have e16 : (if 1 ≤ a2 then some (decide (a2 ≤ 6)) else some false) = some (decide (1 ≤ a2 ∧ a2 ≤ 6)) := by
  by_cases q : 1 ≤ a2 <;> simp [q]
 have e12 : (if a0 = 1 then some (decide (1 ≤ a2 ∧ a2 ≤ 6)) else some true) = some (decide (a0 = 1 → 1 ≤ a2 ∧ a2 ≤ 6)) := by
  by_cases q : a0 = 1 <;> simp [q]
 have hb5 : (if a0 = 1 then some true else some (a0 == 5)) = some (decide (a0 = 1 ∨ a0 = 5)) := by
  by_cases q : a0 = 1
  ·simp [q]
  ·simp [q]; by_cases z : a0 = 5 <;> simp [z]
 rw [e15, e16, e12, hb5]
 simp only [Option.bind_some]
 by_cases hc1 : a0 < 1 ∨ 5 < a0 ∨ (a0 = 1 ∧ (a2 < 1 ∨ 6 < a2)) ∨ (a0 = 5 ∧ th = true ∧ kind ≠ 2)
 ·rw [if_pos hc1]
  by_cases h15 : 1 ≤ a0 ∧ a0 ≤ 5
  ·refine Evn.neg (by simp [h15]) ?_
   by_cases h12 : a0 = 1 → 1 ≤ a2 ∧ a2 ≤ 6
   ·refine Evn.neg (by rw [decide_eq_true h12]; decide) ?_
    have h4 : a0 = 5 ∧ th = true ∧ kind ≠ 2 := by
     rcases hc1 with q | q | ⟨q, q'⟩ | q
     ·omega
     ·omega
     ·have := h12 q; omega
     ·exact q
    exact Evn.pos ⟨h4.1, h4.2.1, by rw [f3 h4.2.1]; exact h4.2.2⟩ (Evn.now _)
   ·exact Evn.pos (decide_eq_false h12) (Evn.now _)
  ·exact Evn.pos (decide_eq_false h15) (Evn.now _)
 rw [if_neg hc1]
 have h15 : 1 ≤ a0 ∧ a0 ≤ 5 := by omega
 have h12 : a0 = 1 → 1 ≤ a2 ∧ a2 ≤ 6 := by omega
 refine Evn.neg (by rw [decide_eq_true h15]; decide) (Evn.neg (by rw [decide_eq_true h12]; decide) (Evn.neg (fun q => hc1 (Or.inr (Or.inr (Or.inr ⟨q.1, q.2.1, by rw [← f3 q.2.1]; exact q.2.2⟩)))) ?_))
 refine Evn.bind hs ?_
 by_cases h2 : 0 < l8.length ∨ (a0 ≠ 1 ∧ a2 ≠ 0) ∨ (¬ (a0 = 1 ∨ a0 = 5) ∧ ((a3 == 0) && mayR a3 a4 a5 a6) = false) ∨ (¬ (a0 = 2 ∨ a0 = 3) ∧ 0 < l7.length)
 ·rw [if_pos h2]; exact Evn.pos (by rw [decide_eq_false]; exact fun q => q h2) (Evn.now _)
 rw [if_neg h2]
 refine Evn.neg (by rw [decide_eq_true h2]; decide) ?_
 by_cases h3 : a0 = 3 ∧ l7.length ≠ 2
 ·rw [if_pos h3]; exact Evn.pos h3 (Evn.now _)
 rw [if_neg h3]
 refine Evn.neg h3 ?_
 by_cases ht : th = false
 ·rw [if_pos ht]; exact Evn.pos ht (Evn.now _)
 rw [if_neg ht]
 refine Evn.neg ht ?_
 by_cases hg : 1024 < l7.length
 ·rw [if_pos hg]; exact Evn.pos hg (Evn.now _)
 rw [if_neg hg]
 refine Evn.neg hg ?_
 have fk := f3 (by simpa using ht)
 have hw := wrong_f l0 at_ ⟨a3, a4, a5, a6⟩ h
 rw [fk] at hw
 simp only [mayV] at hw
 obtain ⟨r, i1, i2⟩ := idx_f (q := fun k => wrongT k l0 at_) (b := fun c => !mayV c || (c.f0 != kind) || (kind == 0)) l7 0 (by omega) (by
  intro c hc
  have := wrong_f l0 at_ c (hv c hc)
  rw [fk] at this
  refine Evn.congr (fun _ => rfl) ?_
  have e : (!mayV c || (c.f0 != kind) || (kind == 0)) = (!mayV c || (c.f0 != kind) || (c.f0 == 0)) := by
   by_cases z : c.f0 = kind
   ·rw [z]
   ·have z1 : (c.f0 != kind) = true := by simpa using z
    rw [z1]; simp
  rw [e]; exact this)
 by_cases hvl : a0 = 1 ∨ a0 = 5
 ·refine Evn.bind (Evn.pos (by simpa using hvl) hw) ?_
  by_cases hm : mayR a3 a4 a5 a6 = false ∨ a3 ≠ kind ∨ kind = 0
  ·rw [if_pos ⟨hvl, hm⟩]
   refine Evn.pos ?_ (Evn.now _)
   rcases hm with q | q | q
   ·simp [q]
   ·simp [q]
   ·by_cases z : a3 = kind
    ·simp [z, q]
    ·simp [z]
  ·rw [if_neg (fun q => hm q.2)]
   refine Evn.neg ?_ (Evn.bind i1 ?_)
   ·have q1 : mayR a3 a4 a5 a6 = true := by cases q : mayR a3 a4 a5 a6 <;> simp_all
    have q2 : a3 = kind := by omega
    have q3 : kind ≠ 0 := by omega
    have q4 : (a3 != kind) = false := by simpa using q2
    have q5 : (a3 == 0) = false := by rw [q2]; simpa using q3
    rw [q1, q4, q5]; decide
   ·unfold badL
    rw [← i2]
    by_cases z : 0 ≤ r
    ·simp [z]; exact Evn.now _
    ·simp [z]; exact Evn.now _
 ·rw [if_neg (fun q => hvl q.1)]
  refine Evn.bind (Evn.neg (by simpa using hvl) (Evn.now _)) (Evn.neg (by simp) (Evn.bind i1 ?_))
  unfold badL
  rw [← i2]
  by_cases z : 0 ≤ r
  ·simp [z]; exact Evn.now _
  ·simp [z]; exact Evn.now _
theorem rcheck_f (l0 : List S23) (a0 : Int) (a1 : ByteArray) (a2 a3 a4 : Int) (a5 : Nat) (a6 : ByteArray) (l7 : List S28) (l8 : List S32) (hl : l0.length < 9223372036854775808) :
  Evn (fun k => colonnaderef18_Check.f k l0 a0 a1 a2 a3 a4 a5 a6 l7 l8) (rcN ((colT l0 a1).getD 0) (colT l0 a1).isSome a0 a2 a3 (mayR a3 a4 a5 a6) l7 l8.length) := by
 unfold colonnaderef18_Check.f
 exact Evn.bind (column_f l0 a1 hl) (Evn.now _)
end Go.Proofs.Ytkedejphebfneaa.V
