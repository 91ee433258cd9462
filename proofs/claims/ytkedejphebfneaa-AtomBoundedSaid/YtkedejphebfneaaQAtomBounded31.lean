/- The texts of AtomBounded, merged: part 31. -/
import Derived.Test.YtkedejphebfneaaQAtomBounded30
import Derived.Test.YtkedejphebfneaaQAtomBounded28
import Derived.Test.YtkedejphebfneaaQAtomBounded13
/- Test, plainly: what the program answers. -/
namespace Go.Proofs.Ytkedejphebfneaa.V
open Go.RowKit Go.Proofs.Ytkedejphebfneaa.Pa Go.Proofs.Ytkedejphebfneaa.L Go.Proofs.Ytkedejphebfneaa.F Go.Proofs.YtkedejphebfneaaW.PrintWords Go.Proofs.YtkedejphebfneaaW.PrintLast Go.Proofs.YtkedejphebfneaaW.PrintMore
set_option linter.unusedVariables false
set_option linter.unusedSimpArgs false
def stS (c op : Int) : Bool := if op = 1 then c == 0 else if op = 2 then c != 0 else if op = 3 then decide (c < 0) else if op = 4 then decide (c ≤ 0) else if op = 5 then decide (c > 0) else if op = 6 then decide (c ≥ 0) else false
theorem stands_f (c op : Int) : atom_stands.f c op = some (stS c op) := by
 unfold atom_stands.f stS
 by_cases h1 : op = 1
 ·simp [h1]
 by_cases h2 : op = 2
 ·simp [h2]
 by_cases h3 : op = 3
 ·simp [h3]
 by_cases h4 : op = 4
 ·simp [h4]
 by_cases h5 : op = 5
 ·simp [h5]
 by_cases h6 : op = 6
 ·simp [h6]
 simp [h1, h2, h3, h4, h5, h6]
def cS (k i : Int) (r : Nat) (s : ByteArray) (c : S28) : Int := cmpS k i r s c.f0 c.f1 c.f2 c.f3
def rz (l : List S28) (i : Nat) : S28 := rd_T28 l (i : Int)
def preS (s p : ByteArray) : Bool := if p.size ≤ s.size then (s.extract 0 p.size).toList == p.toList else false
def sayS (a0 a2 a3 a4 : Int) (a5 : Nat) (a6 : ByteArray) (l7 : List S28) (k i : Int) (r : Nat) (s : ByteArray) : Bool :=
 if a0 = 1 then stS (cmpS k i r s a3 a4 a5 a6) a2 else if a0 = 2 then l7.any (fun c => cS k i r s c == 0)
 else if a0 = 3 then decide (2 ≤ l7.length) && decide (cS k i r s (rz l7 0) ≥ 0) && decide (cS k i r s (rz l7 1) ≤ 0)
 else if a0 = 5 then decide (k = 2) && decide (a3 = 2) && preS s a6 else false
def okL (l7 : List S28) : Prop := ∀ c ∈ l7, c.f2 < 18446744073709551616
theorem rz_mem {l7 : List S28} (i : Nat) (h : i < l7.length) : rz l7 i ∈ l7 := by
 unfold rz rd_T28
 simp [List.getD_eq_getElem?_getD, List.getElem?_eq_getElem h]
theorem hasPrefix_f (s p : ByteArray) : strings_HasPrefix.f s p = some (preS s p) := by
 unfold strings_HasPrefix.f stringslite_HasPrefix.f preS
 by_cases h : p.size ≤ s.size
 ·rw [if_pos (by omega), if_pos (by omega), if_pos (by omega), if_pos h]; simp
 ·rw [if_neg (by omega), if_neg h]; rfl
theorem rprefix_f (s p : ByteArray) : (if (s.size : Int) ≥ (p.size : Int) then (if 0 ≤ (p.size : Int) then (if (p.size : Int) ≤ (s.size : Int) then (some ((s.extract 0 ((p.size : Int) : Int).toNat).toList == p.toList)) else (none)) else (none)) else (some false)) = some (preS s p) := by
 unfold preS
 by_cases h : p.size ≤ s.size
 ·rw [if_pos (by omega), if_pos (by omega), if_pos (by omega), if_pos h]; simp
 ·rw [if_neg (by omega), if_neg h]
theorem cmp_c (k i : Int) {r : Nat} (s : ByteArray) (c : S28) (h : r < 18446744073709551616) (h' : c.f2 < 18446744073709551616) : Evn (fun n => value_Compare.f n k i r s c.f0 c.f1 c.f2 c.f3) (cS k i r s c) := compare_f k i s _ _ _ h h'
theorem contains_f (l7 : List S28) (k i : Int) {r : Nat} (s : ByteArray) (h : r < 18446744073709551616) (hl : okL l7) : Evn (fun n => containsSays.f n l7 k i r s) (l7.any (fun c => cS k i r s c == 0)) := by
 unfold containsSays.f
 obtain ⟨x, i1, i2⟩ := idx_f (q := fun n c => (value_Compare.f n k i r s c.f0 c.f1 c.f2 c.f3).bind fun r => some (r == 0)) (b := fun c => cS k i r s c == 0) l7 0 (by omega) (fun c hc => Evn.bind (cmp_c k i s c h (hl c hc)) (Evn.now _))
 rw [← i2]
 exact Evn.bind i1 (Evn.now _)
theorem says_f (a0 : Int) (a1 : ByteArray) (a2 a3 a4 : Int) (a5 : Nat) (a6 : ByteArray) (l7 : List S28) (l8 : List S32) (k i : Int) {r : Nat} (s : ByteArray) (h5 : a5 < 18446744073709551616) (hl : okL l7) (h : r < 18446744073709551616) :
  Evn (fun n => atom_says.f n a0 a1 a2 a3 a4 a5 a6 l7 l8 k i r s) (sayS a0 a2 a3 a4 a5 a6 l7 k i r s) := by
 unfold atom_says.f sayS
 by_cases h1 : a0 = 1
 ·rw [if_pos h1]
  refine Evn.pos h1 (Evn.bind (compare_f k i s a3 a4 a6 h h5) ?_)
  rw [stands_f]
  exact Evn.now _
 rw [if_neg h1]
 refine Evn.neg h1 ?_
 by_cases h2 : a0 = 2
 ·rw [if_pos h2]
  exact Evn.pos h2 (Evn.bind (contains_f l7 k i s h hl) (Evn.now _))
 rw [if_neg h2]
 refine Evn.neg h2 ?_
 by_cases h3 : a0 = 3
 ·rw [if_pos h3]
  refine Evn.pos h3 ?_
  by_cases hn : 2 ≤ l7.length
  ·rw [decide_eq_true hn, Bool.true_and]
   refine Evn.pos (by omega) (Evn.pos (by omega) (Evn.bind (cmp_c k i s (rz l7 0) h (hl _ (rz_mem 0 (by omega)))) ?_))
   by_cases q : cS k i r s (rz l7 0) ≥ 0
   ·rw [decide_eq_true q, Bool.true_and]
    exact Evn.pos q (Evn.pos (by omega) (Evn.bind (cmp_c k i s (rz l7 1) h (hl _ (rz_mem 1 (by omega)))) (Evn.now _)))
   ·rw [decide_eq_false q, Bool.false_and]
    exact Evn.neg q (Evn.now _)
  ·rw [decide_eq_false hn, Bool.false_and, Bool.false_and]
   exact Evn.neg (by omega) (Evn.now _)
 rw [if_neg h3]
 refine Evn.neg h3 ?_
 by_cases c5 : a0 = 5
 ·simp only [if_pos c5]
  by_cases q : k = 2
  ·rw [decide_eq_true q, Bool.true_and]
   refine Evn.pos q ?_
   by_cases q2 : a3 = 2
   ·rw [decide_eq_true q2, Bool.true_and]
    refine Evn.pos q2 ?_
    rw [hasPrefix_f]
    exact Evn.now _
   ·rw [decide_eq_false q2, Bool.false_and]
    exact Evn.neg q2 (Evn.now _)
  ·rw [decide_eq_false q, Bool.false_and, Bool.false_and]
   exact Evn.neg q (Evn.now _)
 ·simp only [if_neg c5]
  exact Evn.now _
def testS (a0 a2 a3 a4 : Int) (a5 : Nat) (a6 : ByteArray) (l7 : List S28) (k i : Int) (r : Nat) (s : ByteArray) : Int :=
 if ¬ (1 ≤ a0 ∧ a0 ≤ 5) ∨ mayS k i r s = false then 0 else if k = 0 then (if a0 = 4 then 1 else 2) else if sayS a0 a2 a3 a4 a5 a6 l7 k i r s = true then 1 else 0
theorem test_f (a0 : Int) (a1 : ByteArray) (a2 a3 a4 : Int) (a5 : Nat) (a6 : ByteArray) (l7 : List S28) (l8 : List S32) (k i : Int) {r : Nat} (s : ByteArray) (h5 : a5 < 18446744073709551616) (hl : okL l7) (h : r < 18446744073709551616) :
  Evn (fun n => atom_Test.f n a0 a1 a2 a3 a4 a5 a6 l7 l8 k i r s) (testS a0 a2 a3 a4 a5 a6 l7 k i r s) := by
 unfold atom_Test.f testS
 have e15 : atom_is.f a0 a1 a2 a3 a4 a5 a6 l7 l8 = some (decide (1 ≤ a0 ∧ a0 ≤ 5)) := by
  unfold atom_is.f
  by_cases q : 1 ≤ a0 <;> simp [q]
 rw [e15]
 simp only [Option.bind_some]
 by_cases h1 : 1 ≤ a0 ∧ a0 ≤ 5
 ·refine Evn.pos (decide_eq_true h1) (Evn.bind (may_f k i s h) (Evn.succ (fun n => by rw [atom_Test.j0]) ?_))
  by_cases hm : mayS k i r s = true
  ·have hc : ¬ (¬ (1 ≤ a0 ∧ a0 ≤ 5) ∨ true = false) := by simp; exact h1
   rw [hm, if_neg hc]
   refine Evn.neg (by decide) ?_
   by_cases h0 : k = 0
   ·rw [if_pos h0]
    refine Evn.pos h0 (Evn.succ (fun n => by rw [atom_Test.j1]) ?_)
    by_cases h4 : a0 = 4
    ·rw [if_pos h4]; exact Evn.pos (by simpa using h4) (Evn.now _)
    ·rw [if_neg h4]; exact Evn.neg (by simpa using h4) (Evn.pos h0 (Evn.now _))
   ·rw [if_neg h0]
    refine Evn.neg h0 (Evn.succ (fun n => by rw [atom_Test.j1]) ?_)
    refine Evn.neg (by decide) (Evn.neg h0 (Evn.bind (says_f a0 a1 a2 a3 a4 a5 a6 l7 l8 k i s h5 hl h) ?_))
    by_cases q : sayS a0 a2 a3 a4 a5 a6 l7 k i r s = true
    ·simp only [if_pos q]; exact Evn.now _
    ·simp only [if_neg q]; exact Evn.now _
  ·have hm : mayS k i r s = false := by simpa using hm
   rw [hm, if_pos (Or.inr rfl)]
   exact Evn.pos rfl (Evn.now _)
 ·rw [if_pos (Or.inl h1)]
  refine Evn.neg (by rw [decide_eq_false h1]; decide) (Evn.succ (fun n => by rw [atom_Test.j0]) ?_)
  rw [decide_eq_false h1]
  exact Evn.pos rfl (Evn.now _)
end Go.Proofs.Ytkedejphebfneaa.V
