/- AtomChecks: of any columns and any predicate Check answers what the document's does. No conditions. -/
import Derived.Test.YtkedejphebfneaaPa18
import Derived.Test.YtkedejphebfneaaPl
import Derived.Test.YtkedejphebfneaaOp
namespace Go.Proofs.Ytkedejphebfneaa.Pure
open Go.RowKit Go.Proofs.Ytkedejphebfneaa.Pa Go.Proofs.Ytkedejphebfneaa.V Go.Proofs.Ytkedejphebfneaa.L Go.Proofs.YtkedejphebfneaaW.PrintWords Go.Proofs.YtkedejphebfneaaW.PrintLast Go.Proofs.YtkedejphebfneaaW.PrintMore
theorem AtomChecks (l0 : List S23) (l1 : S32) (h0 : (l0.length * 32 ≤ 140737488351232 ∧ ∀ y0_ ∈ l0, okS23 y0_)) (h1 : okS32 l1) : ∃ k, colonnadelaw18_AtomChecks.f k l0 l1.f0 l1.f1 l1.f2 l1.f3.f0 l1.f3.f1 l1.f3.f2 l1.f3.f3 l1.f4 l1.f5 = some true := by
  apply Evn.ex
  have hw : l1.f3.f2 < 18446744073709551616 ∧ (∀ c ∈ l1.f4, c.f2 < 18446744073709551616) ∧ l1.f4.length < 3518437208883 ∧ l1.f5.length < 1172812402961 := by
    cases h1 with
    | mk _ a b c d e f g => exact ⟨F.wf_word d.2.2.1, fun x hx => F.wf_word (e.2 x hx).2.2.1, by omega, by omega⟩
  unfold colonnadelaw18_AtomChecks.f
  obtain ⟨b, hb⟩ := pred_ends l1.f0 l1.f1 l1.f2 l1.f3.f0 l1.f3.f1 l1.f3.f2 l1.f3.f3 l1.f4 l1.f5
  refine Evn.bind hb ?_
  by_cases e : b = true
  · exact Evn.pos e (Evn.now _)
  refine Evn.neg e (Evn.bind (rcheck_f l0 _ _ _ _ _ _ _ _ _ (by omega)) (Evn.pos (by simp; omega) ?_))
  simp only [twin_f _ _ _ _ _ _ _ _ _ hw.2.2.1 hw.2.2.2, Option.bind_some, List.nil_append]
  exact Evn.bind (acheck_f l0 _ _ _ _ _ _ _ _ _ hw.1 hw.2.1) (Evn.pos rfl (Evn.bind known_f (Evn.now _)))
end Go.Proofs.Ytkedejphebfneaa.Pure
