/- SchemaPuts: of any columns Put answers the document's error and bytes. No conditions. -/
import Derived.Test.YtdiabhfphonciaaPa29
import Derived.Test.YtdiabhfphonciaaS6
import Derived.Test.YtdiabhfphonciaaOp
namespace Go.Proofs.Ytdiabhfphonciaa.Pure
open Go.RowKit Go.Proofs.Ytdiabhfphonciaa.Pa Go.Proofs.Ytdiabhfphonciaa.L Go.Proofs.YtdiabhfphonciaaW.PrintWords Go.Proofs.YtdiabhfphonciaaW.PrintLast Go.Proofs.YtdiabhfphonciaaW.PrintMore
theorem SchemaPuts (l0 : (List S42)) (h0 : (l0.length * 32 ≤ 140737488351232 ∧ ∀ y0_ ∈ l0, okS42 y0_)) : ∃ k, colonnadelaw15_SchemaPuts.f k l0 = some true := by
  apply Evn.ex
  unfold colonnadelaw15_SchemaPuts.f
  refine Evn.bind (ref_check_f l0) (Evn.bind (ref_put_f l0) ?_)
  rw [columns_f l0 h0.1]
  simp only [Option.bind_some]
  refine Evn.bind (put_f l0 (small_of (fun c hc => (h0.2 c hc).1))) ?_
  by_cases h : OK l0
  · simp only [if_pos h]
    exact Evn.pos trivial (Evn.pos trivial (Evn.now _))
  · simp only [if_neg h]
    exact Evn.pos trivial (Evn.pos trivial (Evn.now _))
end Go.Proofs.Ytdiabhfphonciaa.Pure
