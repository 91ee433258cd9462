/- SchemaTakes: of any bytes Take answers the document's columns and error. No conditions. -/
import Derived.Test.YtdiabhfphonciaaPa32
import Derived.Test.YtdiabhfphonciaaS6
import Derived.Test.YtdiabhfphonciaaOp
namespace Go.Proofs.Ytdiabhfphonciaa.Pure
open Go.RowKit Go.Proofs.Ytdiabhfphonciaa.Pa Go.Proofs.Ytdiabhfphonciaa.L Go.Proofs.YtdiabhfphonciaaW.PrintWords Go.Proofs.YtdiabhfphonciaaW.PrintLast Go.Proofs.YtdiabhfphonciaaW.PrintMore
theorem SchemaTakes (l0 : (List Int)) (h0 : (l0.length * 1 ≤ 140737488351232 ∧ ∀ y0_ ∈ l0, (Lit.int .u8 y0_).wf = true)) : ∃ k, colonnadelaw15_SchemaTakes.f k l0 = some true := by
  have hb : Bytes l0 := fun x hx => wf_u8 (h0.2 x hx)
  apply Evn.ex
  unfold colonnadelaw15_SchemaTakes.f
  obtain ⟨r1, ht1, hr1⟩ := ref_take_f l0 hb (by omega)
  obtain ⟨r2, ht2, hr2⟩ := take_f l0 hb (by omega)
  obtain rfl := hr1.uniq hr2
  refine Evn.bind ht1 ?_
  rw [twin_f l0 (by omega)]
  simp only [Option.bind_some]
  refine Evn.bind ht2 (Evn.pos rfl ?_)
  have hl : r1.1.length ≤ 1000000000000000 := by
    rcases hr1.1 with e | ⟨l, e, h1, _⟩
    · rw [e]; simp
    · rw [e]; have := h1.2.1; simp only; omega
  refine Evn.bind (ref_same_f r1.1 r1.1 hl) (Evn.pos (by simp) ?_)
  exact Evn.now _
end Go.Proofs.Ytdiabhfphonciaa.Pure
