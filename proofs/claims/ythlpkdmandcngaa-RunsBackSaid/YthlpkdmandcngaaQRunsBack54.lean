/- RunsBack: the row, out of the law's walk and its plain law. -/
import Derived.Test.YthlpkdmandcngaaRows
import Derived.Test.YthlpkdmandcngaaQRunsBack7
import Derived.Test.YthlpkdmandcngaaQRunsBack53
import Derived.Test.YthlpkdmandcngaaQRunsBack52
import Derived.WalkKit
import Derived.ProofKit
import Derived.OpenShut
import Derived.ShutString
import Derived.ChangeOld
import Derived.Below
import Derived.SizedLaws
/- RunsBack: the row, out of the law's walk and its plain law. -/
namespace Go.Proofs.Ythlpkdmandcngaa.runsBack
open Go.ChangeShapes Go.WideShapes Go.ChangeAt Go.RowKit Go.Proofs.Ythlpkdmandcngaa.O Go.Proofs.Ythlpkdmandcngaa.Pa Go.Proofs.YthlpkdmandcngaaW.PrintWords
open Go.ChangeMaps (open_string shut_string)
set_option linter.unusedVariables false
set_option linter.unusedSimpArgs false
theorem own : ownKnob Try.prog.godebug = none := by kernel_rfl
theorem laidOut : laidOutB Try.prog = true := by kernel_rfl
set_option maxRecDepth 100000 in
theorem lifted (os : Os) (started : os.Started) (H : Type) (enc : TypeId × Value → H) :
    ReturnsInHanded {} Try.checked os 7 .any (Rows.runsBackSpec.pre6 enc Try.prog Try.f7 Rows.runsBackRow.domain false) (Rows.runsBackSpec.post enc Try.prog Try.f7 false true false false) := by
  refine returnsInHanded_of_change_sized (C := Try.checked) own started (by kernel_rfl) Try.func7
    (ChangeSpec.witness6 (enc := enc) (C := Try.checked) false ⟨#[], #[.slice none 0 0, .slice none 0 0, .int .i64 0, .slice none 0 0], []⟩ 8 (by kernel_rfl) (by kernel_rfl) (by kernel_rfl) (by kernel_rfl)) ?_
  intro W base args ds gs before hval0 hW hcnd hsz0 _
  have hsz : (DataW.weightsEach Try.prog (Try.f7.params.toList ++ Rows.runsBackSpec.plain.varTypes Try.prog) (ds ++ gs)).all (· ≤ reachBytes) = true := hsz0
  have hval : ∀ (j : Nat) t v, Try.f7.params[j]? = some t → args[j]? = some v → Value.okWide Try.prog W .any base t v := hval0
  have hW' := hW
  obtain ⟨p, q, hA0, hV, rfl, hfz, hnd⟩ := hW
  have hA : DataW.TrodAll enc Try.prog W 0 (fun _ => true) true Try.f7.params.toList args.toList ds p := hA0
  rw [Try.params7] at hA hval hsz
  obtain ⟨v0, vs0, d0, ds0, p0, q0, hargs, rfl, rfl, h0, r0⟩ := trodAll_cons hA
  obtain ⟨v1, vs1, d1, ds1, p1, q1, rfl, rfl, rfl, h1, r1⟩ := trodAll_cons r0
  obtain ⟨v2, vs2, d2, ds2, p2, q2, rfl, rfl, rfl, h2, r2⟩ := trodAll_cons r1
  obtain ⟨v3, vs3, d3, ds3, p3, q3, rfl, rfl, rfl, h3, r3⟩ := trodAll_cons r2
  obtain ⟨rfl, rfl, rfl⟩ := trodAll_nil r3
  obtain rfl : args = #[v0, v1, v2, v3] := by cases args; simp_all
  obtain ⟨rfl, rfl⟩ := trodVars_none hV
  obtain ⟨a0, len0, cap0, rfl⟩ := okWide_slice Try.underlying23 (hval 0 23 v0 rfl rfl)
  have k0 := h0
  have lt0 : ∀ x ∈ p0, x.block < W.heap.size := by obtain ⟨m, hm⟩ := k0; exact DataW.trod_lt m _ _ _ hm
  obtain ⟨fu0, hf0⟩ := h0
  have hz0 : ∀ n ∈ d0.weights Try.prog 23, n ≤ reachBytes := fun n hn => by simpa using List.all_eq_true.1 hsz n (DataW.weights_mem_each (j := 0) (t := 23) rfl rfl n hn)
  obtain ⟨l0, hK0, ok0, bk0⟩ := (show Opens enc Try.prog W 23 (Kd.slice 2 (Kd.int .i64)) (fun x_ => (x_.length * 8 ≤ 140737488351232 ∧ ∀ y0_ ∈ x_, (Lit.int .i64 y0_).wf = true)) (sumB (fun _ => 1)) fu0 from (opens_slice (d := (Kd.int .i64)) (ok := (fun x_ => (Lit.int .i64 x_).wf = true)) (m := (fun _ => 1)) 8 Try.underlying23 (by kernel_rfl) (by kernel_rfl) (fun m_ hm_ => (opens_int Try.underlying2)))) _ _ _ hf0 hz0
  obtain ⟨A0, c0, e0, hl0, hC0⟩ := hK0
  simp [Value.cells] at e0
  obtain ⟨rfl, rfl, rfl⟩ := e0
  obtain ⟨a1, len1, cap1, rfl⟩ := okWide_slice Try.underlying24 (hval 1 24 v1 rfl rfl)
  have k1 := h1
  have lt1 : ∀ x ∈ p1, x.block < W.heap.size := by obtain ⟨m, hm⟩ := k1; exact DataW.trod_lt m _ _ _ hm
  obtain ⟨fu1, hf1⟩ := h1
  have hz1 : ∀ n ∈ d1.weights Try.prog 24, n ≤ reachBytes := fun n hn => by simpa using List.all_eq_true.1 hsz n (DataW.weights_mem_each (j := 1) (t := 24) rfl rfl n hn)
  obtain ⟨l1, hK1, ok1, bk1⟩ := (show Opens enc Try.prog W 24 (Kd.slice 9 Kd.string) (fun x_ => (x_.length * 16 ≤ 140737488351232 ∧ ∀ y0_ ∈ x_, y0_.size ≤ 140737488351232)) (sumB (fun s : ByteArray => s.size + 1)) fu1 from (opens_slice (d := Kd.string) (ok := (fun x_ => x_.size ≤ 140737488351232)) (m := (fun s : ByteArray => s.size + 1)) 16 Try.underlying24 (by kernel_rfl) (by kernel_rfl) (fun m_ hm_ => (opens_string Try.underlying9)))) _ _ _ hf1 hz1
  obtain ⟨A1, c1, e1, hl1, hC1⟩ := hK1
  simp [Value.cells] at e1
  obtain ⟨rfl, rfl, rfl⟩ := e1
  obtain ⟨a2, rfl, rfl, rfl, w2⟩ := open_int Try.underlying3 (hval 2 3 v2 rfl rfl) h2
  obtain ⟨a3, len3, cap3, rfl⟩ := okWide_slice Try.underlying34 (hval 3 34 v3 rfl rfl)
  have k3 := h3
  have lt3 : ∀ x ∈ p3, x.block < W.heap.size := by obtain ⟨m, hm⟩ := k3; exact DataW.trod_lt m _ _ _ hm
  obtain ⟨fu3, hf3⟩ := h3
  have hz3 : ∀ n ∈ d3.weights Try.prog 34, n ≤ reachBytes := fun n hn => by simpa using List.all_eq_true.1 hsz n (DataW.weights_mem_each (j := 3) (t := 34) rfl rfl n hn)
  obtain ⟨l3, hK3, ok3, bk3⟩ := (show Opens enc Try.prog W 34 (Kd.slice 5 (Kd.int .u8)) (fun x_ => (x_.length * 1 ≤ 140737488351232 ∧ ∀ y0_ ∈ x_, (Lit.int .u8 y0_).wf = true)) (sumB (fun _ => 1)) fu3 from (opens_slice (d := (Kd.int .u8)) (ok := (fun x_ => (Lit.int .u8 x_).wf = true)) (m := (fun _ => 1)) 1 Try.underlying34 (by kernel_rfl) (by kernel_rfl) (fun m_ hm_ => (opens_int Try.underlying5)))) _ _ _ hf3 hz3
  obtain ⟨A3, c3, e3, hl3, hC3⟩ := hK3
  simp [Value.cells] at e3
  obtain ⟨rfl, rfl, rfl⟩ := e3
  obtain ⟨k_, hk_⟩ := Pure.RunsBack l0 l1 a2 l3 ok0 ok1 w2 ok3
  refine (colonnadelaw10_RunsBack.calls k_ _ _ l0 _ _ l1 a2 _ _ l3 true W hC0 hl0 hC1 hl1 hC3 hl3 hk_ ⟨rfl⟩).mono fun e W' ⟨he, bel⟩ => ?_
  subst he
  exact ⟨_, rfl, _, _, _, [], _, [], hW', trodAll_mk1 (shut_bool Try.underlying4 _), (trodAll_cons_mk (Below.trod laidOut (by kernel_rfl) (of_decide_eq_true (by kernel_rfl)) k0 bel lt0) (trodAll_cons_mk (Below.trod laidOut (by kernel_rfl) (of_decide_eq_true (by kernel_rfl)) k1 bel lt1) (trodAll_cons_mk (shut_int Try.underlying3 w2) (trodAll_cons_mk (Below.trod laidOut (by kernel_rfl) (of_decide_eq_true (by kernel_rfl)) k3 bel lt3) trodAll_mk0)))), rfl, bel.frame _, fun h => by cases h⟩
theorem over : Rows.runsBackRow.holds Try.pinned (OpenSpec.ofChange Rows.runsBackSpec) :=
  OpenClaim.holds_of_wide 7 Try.f7 rfl rfl rfl rfl rfl rfl rfl ⟨rfl, rfl, rfl, rfl, rfl⟩ rfl rfl rfl rfl rfl (by kernel_rfl) Try.func7 (by kernel_rfl)
    (of_decide_eq_true (by kernel_rfl)) (by unfold Func.isWrapper; first | (rw [if_pos (by decide +kernel)]; kernel_rfl) | (rw [if_neg (by decide +kernel)]; exact ⟨rfl, rfl⟩))
    (fun os started H enc _ => lifted os started H enc)
end Go.Proofs.Ythlpkdmandcngaa.runsBack
namespace Go.Proofs.Ythlpkdmandcngaa
/-- The row, under a short name, for the claim. -/
theorem runsBack_holds : Rows.RunsBackSaid := runsBack.over
#print axioms runsBack_holds
end Go.Proofs.Ythlpkdmandcngaa
