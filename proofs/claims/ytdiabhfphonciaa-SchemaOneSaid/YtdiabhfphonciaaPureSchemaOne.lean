/- SchemaOne: bytes that are taken are what is put of the answer. No conditions. -/
import Derived.Test.YtdiabhfphonciaaPa36
import Derived.Test.YtdiabhfphonciaaS6
import Derived.Test.YtdiabhfphonciaaOp
namespace Go.Proofs.Ytdiabhfphonciaa.Pure
open Go.RowKit Go.Proofs.Ytdiabhfphonciaa.Pa Go.Proofs.Ytdiabhfphonciaa.L Go.Proofs.YtdiabhfphonciaaW.PrintWords Go.Proofs.YtdiabhfphonciaaW.PrintLast Go.Proofs.YtdiabhfphonciaaW.PrintMore
theorem SchemaOne (l0 : (List Int)) (h0 : (l0.length * 1 ≤ 140737488351232 ∧ ∀ y0_ ∈ l0, (Lit.int .u8 y0_).wf = true)) : ∃ k, colonnadelaw15_SchemaOne.f k l0 = some true := by
  have hb : Bytes l0 := fun x hx => wf_u8 (h0.2 x hx)
  apply Evn.ex
  unfold colonnadelaw15_SchemaOne.f
  refine Evn.bindc rfl (Evn.pos rfl ?_)
  rw [twin_f l0 (by omega)]
  simp only [Option.bind_some]
  obtain ⟨res, ht, hr⟩ := take_f l0 hb (by omega)
  refine Evn.bind ht ?_
  rcases hr.1 with e | ⟨l, e, h1, h2⟩
  · subst e
    exact Evn.neg (by simp) (Evn.pos rfl (Evn.now _))
  · subst e
    have hp := put_f l (fun c hc => by have := good_size (h1.2.2.1 c hc); omega)
    rw [if_pos h1] at hp
    refine Evn.pos rfl (Evn.bind hp (Evn.pos rfl ?_))
    rw [h2]
    simp only [beq_self_eq_true]
    exact Evn.now _
end Go.Proofs.Ytdiabhfphonciaa.Pure
