/- SchemaFinds: of any columns and any name Find and Same answer what the document's do. No conditions. -/
import Derived.Test.YtdiabhfphonciaaPa27
import Derived.Test.YtdiabhfphonciaaS6
import Derived.Test.YtdiabhfphonciaaOp
namespace Go.Proofs.Ytdiabhfphonciaa.Pure
open Go.RowKit Go.Proofs.Ytdiabhfphonciaa.Pa Go.Proofs.Ytdiabhfphonciaa.L Go.Proofs.YtdiabhfphonciaaW.PrintWords Go.Proofs.YtdiabhfphonciaaW.PrintLast Go.Proofs.YtdiabhfphonciaaW.PrintMore
theorem SchemaFinds (l0 : (List S42)) (l1 : (List S42)) (a2 : ByteArray) (h0 : (l0.length * 32 ≤ 140737488351232 ∧ ∀ y0_ ∈ l0, okS42 y0_)) (h1 : (l1.length * 32 ≤ 140737488351232 ∧ ∀ y0_ ∈ l1, okS42 y0_)) (h2 : a2.size ≤ 140737488351232) : ∃ k, colonnadelaw15_SchemaFinds.f k l0 l1 a2 = some true := by
  apply Evn.ex
  unfold colonnadelaw15_SchemaFinds.f
  refine Evn.bind (ref_find_f l0 a2 (by omega)) (Evn.bind (ref_same_f l0 l1 (by omega)) ?_)
  rw [columns_f l0 h0.1, columns_f l1 h1.1]
  simp only [Option.bind_some, schema_Find.f]
  refine Evn.pos rfl (Evn.pos (by simp [findR]) ?_)
  refine Evn.bind (same_f l0 l1 (by omega)) (Evn.pos (by simp) ?_)
  refine Evn.bind (same_f l0 l0 (by omega)) (Evn.pos (by simp) ?_)
  exact Evn.now _
end Go.Proofs.Ytdiabhfphonciaa.Pure
