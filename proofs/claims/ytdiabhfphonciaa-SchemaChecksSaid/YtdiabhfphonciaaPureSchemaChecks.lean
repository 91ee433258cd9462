/- SchemaChecks: of any columns Check answers what the document's does. No conditions. -/
import Derived.Test.YtdiabhfphonciaaPa24
import Derived.Test.YtdiabhfphonciaaS6
import Derived.Test.YtdiabhfphonciaaOp
namespace Go.Proofs.Ytdiabhfphonciaa.Pure
open Go.RowKit Go.Proofs.Ytdiabhfphonciaa.Pa Go.Proofs.Ytdiabhfphonciaa.L Go.Proofs.YtdiabhfphonciaaW.PrintWords Go.Proofs.YtdiabhfphonciaaW.PrintLast Go.Proofs.YtdiabhfphonciaaW.PrintMore
theorem SchemaChecks (l0 : (List S42)) (h0 : (l0.length * 32 ≤ 140737488351232 ∧ ∀ y0_ ∈ l0, okS42 y0_)) : ∃ k, colonnadelaw15_SchemaChecks.f k l0 = some true := by
  apply Evn.ex
  unfold colonnadelaw15_SchemaChecks.f
  refine Evn.bind (ref_check_f l0) ?_
  rw [columns_f l0 h0.1]
  simp only [Option.bind_some]
  refine Evn.bind (check_f l0 (small_of (fun c hc => (h0.2 c hc).1))) (Evn.pos rfl ?_)
  exact Evn.now _
end Go.Proofs.Ytdiabhfphonciaa.Pure
