/- The texts of AtomTests, merged: part 45. -/
import Derived.Test.YtkedejphebfneaaQAtomTests38
import Derived.Test.YtkedejphebfneaaQAtomTests44
import Derived.Test.YtkedejphebfneaaQAtomTests6
/- AtomTests: of any predicate and any value Test answers what the document's does. No conditions. -/
namespace Go.Proofs.Ytkedejphebfneaa.Pure
open Go.RowKit Go.Proofs.Ytkedejphebfneaa.Pa Go.Proofs.Ytkedejphebfneaa.V Go.Proofs.Ytkedejphebfneaa.L Go.Proofs.YtkedejphebfneaaW.PrintWords Go.Proofs.YtkedejphebfneaaW.PrintLast Go.Proofs.YtkedejphebfneaaW.PrintMore
theorem AtomTests (l0 : S32) (l1 : S28) (h0 : okS32 l0) (h1 : okS28 l1) : ∃ k, colonnadelaw18_AtomTests.f k l0.f0 l0.f1 l0.f2 l0.f3.f0 l0.f3.f1 l0.f3.f2 l0.f3.f3 l0.f4 l0.f5 l1.f0 l1.f1 l1.f2 l1.f3 = some true := by
  apply Evn.ex
  have hw : l0.f3.f2 < 18446744073709551616 ∧ okL l0.f4 ∧ l0.f4.length < 3518437208883 ∧ l0.f5.length < 1172812402961 := by
    cases h0 with
    | mk _ a b c d e f g => exact ⟨F.wf_word d.2.2.1, fun x hx => F.wf_word (e.2 x hx).2.2.1, by omega, by omega⟩
  have hv := F.wf_word h1.2.2.1
  unfold colonnadelaw18_AtomTests.f
  obtain ⟨b, hb⟩ := pred_ends l0.f0 l0.f1 l0.f2 l0.f3.f0 l0.f3.f1 l0.f3.f2 l0.f3.f3 l0.f4 l0.f5
  refine Evn.bind hb ?_
  by_cases e : b = true
  · exact Evn.pos e (Evn.now _)
  refine Evn.neg e (Evn.bind (rtest_f _ _ _ _ _ _ _ _ _ _ _ _ hw.1 hw.2.1 (by omega) hv) ?_)
  simp only [twin_f _ _ _ _ _ _ _ _ _ hw.2.2.1 hw.2.2.2, Option.bind_some]
  exact Evn.bind (test_f _ _ _ _ _ _ _ _ _ _ _ _ hw.1 hw.2.1 hv) (Evn.pos rfl (Evn.bind known_f (Evn.now _)))
end Go.Proofs.Ytkedejphebfneaa.Pure
