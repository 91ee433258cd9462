/- The texts of AtomTests, merged: part 44. -/
import Derived.Test.YtkedejphebfneaaQAtomTests42
import Derived.Test.YtkedejphebfneaaQAtomTests43
import Derived.Test.YtkedejphebfneaaQAtomTests29
/- Test, plainly: what the document answers. -/
namespace Go.Proofs.Ytkedejphebfneaa.V
open Go.RowKit Go.Proofs.Ytkedejphebfneaa.Pa Go.Proofs.Ytkedejphebfneaa.L Go.Proofs.Ytkedejphebfneaa.F Go.Proofs.YtkedejphebfneaaW.PrintWords Go.Proofs.YtkedejphebfneaaW.PrintLast Go.Proofs.YtkedejphebfneaaW.PrintMore
set_option linter.unusedVariables false
set_option linter.unusedSimpArgs false
theorem rstands_f (k i : Int) {r : Nat} (s : ByteArray) (op k' i' : Int) {r' : Nat} (s' : ByteArray) (h : r < 18446744073709551616) (h' : r' < 18446744073709551616) : Evn (fun n => colonnaderef18_stands.f n k i r s op k' i' r' s') (stS (cmpS k i r s k' i' r' s') op) := by
  unfold colonnaderef18_stands.f
  exact Evn.bind (rcompare_f k i s k' i' s' h h') (Evn.now _)
theorem rcmp_c (k i : Int) {r : Nat} (s : ByteArray) (c : S28) (h : r < 18446744073709551616) (h' : c.f2 < 18446744073709551616) : Evn (fun n => colonnaderef18_Compare.f n k i r s c.f0 c.f1 c.f2 c.f3) (cS k i r s c) := rcompare_f k i s _ _ _ h h'
theorem rsays_l (a0 : Int) (a1 : ByteArray) (a2 a3 a4 : Int) (a5 : Nat) (a6 : ByteArray) (l7 : List S28) (l8 : List S32) (k i : Int) {r : Nat} (s : ByteArray) (hl : okL l7) (hb : l7.length < 9223372036854775808) (h : r < 18446744073709551616) :
    ∀ (d j : Nat), j + d = l7.length → Evn (fun n => colonnaderef18_says.l0 n (j : Int) a0 a1 a2 a3 a4 a5 a6 l7 l8 k i r s) ((l7.drop j).any (fun c => cS k i r s c == 0))
  | 0, j, e => by
    refine Evn.succ (fun n => by rw [colonnaderef18_says.l0]) ?_
    rw [List.drop_eq_nil_of_le (by omega)]
    exact Evn.neg (by omega) (Evn.now _)
  | d + 1, j, e => by
    refine Evn.succ (fun n => by rw [colonnaderef18_says.l0]) ?_
    have hlt : j < l7.length := by omega
    have hdr : l7.drop j = rz l7 j :: l7.drop (j + 1) := by rw [List.drop_eq_getElem_cons hlt]; simp [rz, rd_T28, List.getD_eq_getElem?_getD, List.getElem?_eq_getElem hlt]
    rw [hdr, List.any_cons]
    refine Evn.pos (by omega) (Evn.pos (by omega) (Evn.bind (rcmp_c k i s (rz l7 j) h (hl _ (rz_mem j hlt))) ?_))
    by_cases q : cS k i r s (rz l7 j) = 0
    · rw [q]
      exact Evn.pos rfl (Evn.now _)
    · refine Evn.neg q ?_
      have hw : wrap64 ((j : Int) + 1) = ((j + 1 : Nat) : Int) := by rw [wrap64_in (by omega) (by omega)]; omega
      rw [hw, beq_eq_false_iff_ne.2 q, Bool.false_or]
      exact rsays_l a0 a1 a2 a3 a4 a5 a6 l7 l8 k i s hl hb h d (j + 1) (by omega)
theorem rsays_f (a0 : Int) (a1 : ByteArray) (a2 a3 a4 : Int) (a5 : Nat) (a6 : ByteArray) (l7 : List S28) (l8 : List S32) (k i : Int) {r : Nat} (s : ByteArray) (h5 : a5 < 18446744073709551616) (hl : okL l7) (hb : l7.length < 9223372036854775808) (h : r < 18446744073709551616) :
    Evn (fun n => colonnaderef18_says.f n a0 a1 a2 a3 a4 a5 a6 l7 l8 k i r s) (sayS a0 a2 a3 a4 a5 a6 l7 k i r s) := by
  unfold colonnaderef18_says.f sayS
  by_cases h1 : a0 = 1
  · rw [if_pos h1]
    exact Evn.pos h1 (Evn.bind (rstands_f k i s a2 a3 a4 a6 h h5) (Evn.now _))
  rw [if_neg h1]
  refine Evn.neg h1 ?_
  by_cases h2 : a0 = 2
  · rw [if_pos h2]
    exact Evn.pos h2 (rsays_l a0 a1 a2 a3 a4 a5 a6 l7 l8 k i s hl hb h l7.length 0 (by omega))
  rw [if_neg h2]
  refine Evn.neg h2 ?_
  by_cases h3 : a0 = 3
  · rw [if_pos h3]
    refine Evn.pos h3 ?_
    by_cases hn : 2 ≤ l7.length
    · rw [decide_eq_true hn, Bool.true_and]
      refine Evn.pos (by omega) (Evn.pos (by omega) (Evn.bind (rcmp_c k i s (rz l7 0) h (hl _ (rz_mem 0 (by omega)))) ?_))
      by_cases q : cS k i r s (rz l7 0) ≥ 0
      · rw [decide_eq_true q, Bool.true_and]
        exact Evn.pos q (Evn.pos (by omega) (Evn.bind (rcmp_c k i s (rz l7 1) h (hl _ (rz_mem 1 (by omega)))) (Evn.now _)))
      · rw [decide_eq_false q, Bool.false_and]
        exact Evn.neg q (Evn.now _)
    · rw [decide_eq_false hn, Bool.false_and, Bool.false_and]
      exact Evn.neg (by omega) (Evn.now _)
  rw [if_neg h3]
  refine Evn.neg h3 ?_
  by_cases c5 : a0 = 5
  · simp only [if_pos c5]
    by_cases q : k = 2
    · rw [decide_eq_true q, Bool.true_and]
      refine Evn.pos q ?_
      by_cases q2 : a3 = 2
      · rw [decide_eq_true q2, Bool.true_and]
        refine Evn.pos q2 (Evn.congr (fun _ => rprefix_f s a6) (Evn.now _))
      · rw [decide_eq_false q2, Bool.false_and]
        exact Evn.neg q2 (Evn.now _)
    · rw [decide_eq_false q, Bool.false_and, Bool.false_and]
      exact Evn.neg q (Evn.now _)
  · simp only [if_neg c5]
    exact Evn.now _
theorem rtest_f (a0 : Int) (a1 : ByteArray) (a2 a3 a4 : Int) (a5 : Nat) (a6 : ByteArray) (l7 : List S28) (l8 : List S32) (k i : Int) {r : Nat} (s : ByteArray) (h5 : a5 < 18446744073709551616) (hl : okL l7) (hb : l7.length < 9223372036854775808) (h : r < 18446744073709551616) :
    Evn (fun n => colonnaderef18_Test.f n a0 a1 a2 a3 a4 a5 a6 l7 l8 k i r s) (testS a0 a2 a3 a4 a5 a6 l7 k i r s) := by
  unfold colonnaderef18_Test.f testS
  by_cases h1 : 1 ≤ a0
  · refine Evn.neg (by omega) ?_
    by_cases h2 : a0 ≤ 5
    · refine Evn.neg (by omega) ?_
      unfold colonnaderef18_May.f
      rw [mayR_eq _ _ _ h]
      simp only [Option.bind_some]
      refine Evn.succ (fun n => by rw [colonnaderef18_Test.j0]) ?_
      by_cases hm : mayS k i r s = true
      · have hc : ¬ (¬ (1 ≤ a0 ∧ a0 ≤ 5) ∨ true = false) := by simp; exact ⟨h1, h2⟩
        rw [hm, if_neg hc]
        refine Evn.neg (by decide) ?_
        by_cases h0 : k = 0
        · rw [if_pos h0]
          refine Evn.pos h0 ?_
          by_cases h4 : a0 = 4
          · simp only [if_pos h4]; exact Evn.now _
          · simp only [if_neg h4]; exact Evn.now _
        · rw [if_neg h0]
          refine Evn.neg h0 (Evn.bind (rsays_f a0 a1 a2 a3 a4 a5 a6 l7 l8 k i s h5 hl hb h) ?_)
          by_cases q : sayS a0 a2 a3 a4 a5 a6 l7 k i r s = true
          · simp only [if_pos q]; exact Evn.now _
          · simp only [if_neg q]; exact Evn.now _
      · have hm : mayS k i r s = false := by simpa using hm
        rw [hm, if_pos (Or.inr rfl)]
        exact Evn.pos rfl (Evn.now _)
    · rw [if_pos (Or.inl (by omega))]
      exact Evn.pos (by omega) (Evn.succ (fun n => by rw [colonnaderef18_Test.j0]) (Evn.pos rfl (Evn.now _)))
  · rw [if_pos (Or.inl (by omega))]
    exact Evn.pos (by omega) (Evn.succ (fun n => by rw [colonnaderef18_Test.j0]) (Evn.pos rfl (Evn.now _)))
end Go.Proofs.Ytkedejphebfneaa.V
