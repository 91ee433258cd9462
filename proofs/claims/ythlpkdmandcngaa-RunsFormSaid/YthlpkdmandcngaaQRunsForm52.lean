/- RunsForm: the row, out of the law's walk and its plain law. -/
import Derived.Test.YthlpkdmandcngaaRows
import Derived.Test.YthlpkdmandcngaaQRunsForm6
import Derived.Test.YthlpkdmandcngaaQRunsForm51
import Derived.Test.YthlpkdmandcngaaQRunsForm50
import Derived.WalkKit
import Derived.ProofKit
import Derived.OpenShut
import Derived.ShutString
import Derived.ChangeOld
import Derived.Below
import Derived.SizedLaws
/- RunsForm: the row, out of the law's walk and its plain law. -/
namespace Go.Proofs.Ythlpkdmandcngaa.runsForm
open Go.ChangeShapes Go.WideShapes Go.ChangeAt Go.RowKit Go.Proofs.Ythlpkdmandcngaa.O Go.Proofs.Ythlpkdmandcngaa.Pa Go.Proofs.YthlpkdmandcngaaW.PrintWords
open Go.ChangeMaps (open_string shut_string)
set_option linter.unusedVariables false
set_option linter.unusedSimpArgs false
theorem own : ownKnob Try.prog.godebug = none := by kernel_rfl
theorem laidOut : laidOutB Try.prog = true := by kernel_rfl
set_option maxRecDepth 100000 in
theorem lifted (os : Os) (started : os.Started) (H : Type) (enc : TypeId × Value → H) :
    ReturnsInHanded {} Try.checked os 8 .any (Rows.runsFormSpec.pre6 enc Try.prog Try.f8 Rows.runsFormRow.domain false) (Rows.runsFormSpec.post enc Try.prog Try.f8 false true false false) := by
  refine returnsInHanded_of_change_sized (C := Try.checked) own started (by kernel_rfl) Try.func8
    (ChangeSpec.witness6 (enc := enc) (C := Try.checked) false ⟨#[], #[.slice none 0 0, .int .i64 0], []⟩ 8 (by kernel_rfl) (by kernel_rfl) (by kernel_rfl) (by kernel_rfl)) ?_
  intro W base args ds gs before hval0 hW hcnd hsz0 _
  have hsz : (DataW.weightsEach Try.prog (Try.f8.params.toList ++ Rows.runsFormSpec.plain.varTypes Try.prog) (ds ++ gs)).all (· ≤ reachBytes) = true := hsz0
  have hval : ∀ (j : Nat) t v, Try.f8.params[j]? = some t → args[j]? = some v → Value.okWide Try.prog W .any base t v := hval0
  have hW' := hW
  obtain ⟨p, q, hA0, hV, rfl, hfz, hnd⟩ := hW
  have hA : DataW.TrodAll enc Try.prog W 0 (fun _ => true) true Try.f8.params.toList args.toList ds p := hA0
  rw [Try.params8] at hA hval hsz
  obtain ⟨v0, vs0, d0, ds0, p0, q0, hargs, rfl, rfl, h0, r0⟩ := trodAll_cons hA
  obtain ⟨v1, vs1, d1, ds1, p1, q1, rfl, rfl, rfl, h1, r1⟩ := trodAll_cons r0
  obtain ⟨rfl, rfl, rfl⟩ := trodAll_nil r1
  obtain rfl : args = #[v0, v1] := by cases args; simp_all
  obtain ⟨rfl, rfl⟩ := trodVars_none hV
  obtain ⟨a0, len0, cap0, rfl⟩ := okWide_slice Try.underlying34 (hval 0 34 v0 rfl rfl)
  have k0 := h0
  have lt0 : ∀ x ∈ p0, x.block < W.heap.size := by obtain ⟨m, hm⟩ := k0; exact DataW.trod_lt m _ _ _ hm
  obtain ⟨fu0, hf0⟩ := h0
  have hz0 : ∀ n ∈ d0.weights Try.prog 34, n ≤ reachBytes := fun n hn => by simpa using List.all_eq_true.1 hsz n (DataW.weights_mem_each (j := 0) (t := 34) rfl rfl n hn)
  obtain ⟨l0, hK0, ok0, bk0⟩ := (show Opens enc Try.prog W 34 (Kd.slice 5 (Kd.int .u8)) (fun x_ => (x_.length * 1 ≤ 140737488351232 ∧ ∀ y0_ ∈ x_, (Lit.int .u8 y0_).wf = true)) (sumB (fun _ => 1)) fu0 from (opens_slice (d := (Kd.int .u8)) (ok := (fun x_ => (Lit.int .u8 x_).wf = true)) (m := (fun _ => 1)) 1 Try.underlying34 (by kernel_rfl) (by kernel_rfl) (fun m_ hm_ => (opens_int Try.underlying5)))) _ _ _ hf0 hz0
  obtain ⟨A0, c0, e0, hl0, hC0⟩ := hK0
  simp [Value.cells] at e0
  obtain ⟨rfl, rfl, rfl⟩ := e0
  obtain ⟨a1, rfl, rfl, rfl, w1⟩ := open_int Try.underlying3 (hval 1 3 v1 rfl rfl) h1
  obtain ⟨k_, hk_⟩ := Pure.RunsForm l0 a1 ok0 w1
  refine (colonnadelaw10_RunsForm.calls k_ _ _ l0 a1 true W hC0 hl0 hk_ ⟨rfl⟩).mono fun e W' ⟨he, bel⟩ => ?_
  subst he
  exact ⟨_, rfl, _, _, _, [], _, [], hW', trodAll_mk1 (shut_bool Try.underlying4 _), (trodAll_cons_mk (Below.trod laidOut (by kernel_rfl) (of_decide_eq_true (by kernel_rfl)) k0 bel lt0) (trodAll_cons_mk (shut_int Try.underlying3 w1) trodAll_mk0)), rfl, bel.frame _, fun h => by cases h⟩
theorem over : Rows.runsFormRow.holds Try.pinned (OpenSpec.ofChange Rows.runsFormSpec) :=
  OpenClaim.holds_of_wide 8 Try.f8 rfl rfl rfl rfl rfl rfl rfl ⟨rfl, rfl, rfl, rfl, rfl⟩ rfl rfl rfl rfl rfl (by kernel_rfl) Try.func8 (by kernel_rfl)
    (of_decide_eq_true (by kernel_rfl)) (by unfold Func.isWrapper; first | (rw [if_pos (by decide +kernel)]; kernel_rfl) | (rw [if_neg (by decide +kernel)]; exact ⟨rfl, rfl⟩))
    (fun os started H enc _ => lifted os started H enc)
end Go.Proofs.Ythlpkdmandcngaa.runsForm
namespace Go.Proofs.Ythlpkdmandcngaa
/-- The row, under a short name, for the claim. -/
theorem runsForm_holds : Rows.RunsFormSaid := runsForm.over
#print axioms runsForm_holds
end Go.Proofs.Ythlpkdmandcngaa
