/- BloomNone: the row, out of the law's walk and its plain law. -/
import Derived.Test.YtgmeefgihidomaaRows
import Derived.Test.YtgmeefgihidomaaOp
import Derived.Test.YtgmeefgihidomaaPureBloomNone
import Derived.Test.YtgmeefgihidomaaPa46
import Derived.WalkKit
import Derived.ProofKit
import Derived.OpenShut
import Derived.ShutString
import Derived.ChangeOld
import Derived.Below
import Derived.SizedLaws
namespace Go.Proofs.Ytgmeefgihidomaa.bloomNone
open Go.ChangeShapes Go.WideShapes Go.ChangeAt Go.RowKit Go.Proofs.Ytgmeefgihidomaa.O Go.Proofs.Ytgmeefgihidomaa.Pa Go.Proofs.YtgmeefgihidomaaW.PrintWords
open Go.ChangeMaps (open_string shut_string)
set_option linter.unusedVariables false
theorem own : ownKnob Try.prog.godebug = none := by kernel_rfl
theorem laidOut : laidOutB Try.prog = true := by kernel_rfl
set_option maxRecDepth 100000 in
theorem lifted (os : Os) (started : os.Started) (H : Type) (enc : TypeId × Value → H) :
    ReturnsInHanded {} Try.checked os 7 .any (Rows.bloomNoneSpec.pre6 enc Try.prog Try.f7 Rows.bloomNoneRow.domain false) (Rows.bloomNoneSpec.post enc Try.prog Try.f7 false true false false) := by
  refine returnsInHanded_of_change_sized (C := Try.checked) own started (by kernel_rfl) Try.func7
    (ChangeSpec.witness6 (enc := enc) (C := Try.checked) false ⟨#[], #[.int .i64 0, .slice none 0 0, .slice none 0 0], []⟩ 8 (by kernel_rfl) (by kernel_rfl) (by kernel_rfl) (by kernel_rfl)) ?_
  intro W base args ds gs before hval0 hW hcnd hsz0 _
  have hsz : (DataW.weightsEach Try.prog (Try.f7.params.toList ++ Rows.bloomNoneSpec.plain.varTypes Try.prog) (ds ++ gs)).all (· ≤ reachBytes) = true := hsz0
  have hval : ∀ (j : Nat) t v, Try.f7.params[j]? = some t → args[j]? = some v → Value.okWide Try.prog W .any base t v := hval0
  have hW' := hW
  obtain ⟨p, q, hA0, hV, rfl, hfz, hnd⟩ := hW
  have hA : DataW.TrodAll enc Try.prog W 0 (fun _ => true) true Try.f7.params.toList args.toList ds p := hA0
  rw [Try.params7] at hA hval hsz
  obtain ⟨v0, vs0, d0, ds0, p0, q0, hargs, rfl, rfl, h0, r0⟩ := trodAll_cons hA
  obtain ⟨v1, vs1, d1, ds1, p1, q1, rfl, rfl, rfl, h1, r1⟩ := trodAll_cons r0
  obtain ⟨v2, vs2, d2, ds2, p2, q2, rfl, rfl, rfl, h2, r2⟩ := trodAll_cons r1
  obtain ⟨rfl, rfl, rfl⟩ := trodAll_nil r2
  obtain rfl : args = #[v0, v1, v2] := by cases args; simp_all
  obtain ⟨rfl, rfl⟩ := trodVars_none hV
  obtain ⟨a0, rfl, rfl, rfl, w0⟩ := open_int Try.underlying3 (hval 0 3 v0 rfl rfl) h0
  obtain ⟨a1, len1, cap1, rfl⟩ := okWide_slice Try.underlying33 (hval 1 33 v1 rfl rfl)
  have k1 := h1
  have lt1 : ∀ x ∈ p1, x.block < W.heap.size := by obtain ⟨m, hm⟩ := k1; exact DataW.trod_lt m _ _ _ hm
  obtain ⟨fu1, hf1⟩ := h1
  have hz1 : ∀ n ∈ d1.weights Try.prog 33, n ≤ reachBytes := fun n hn => by simpa using List.all_eq_true.1 hsz n (DataW.weights_mem_each (j := 1) (t := 33) rfl rfl n hn)
  obtain ⟨l1, hK1, ok1⟩ := (show Opens enc Try.prog W 33 (Kd.slice 40 k40) (fun x_ => (x_.length * 40 ≤ 140737488351232 ∧ ∀ y0_ ∈ x_, okS40 y0_)) fu1 from (opens_slice (d := k40) (ok := (fun x_ => okS40 x_)) 40 Try.underlying33 (by kernel_rfl) (by kernel_rfl) (fun m_ hm_ => (open_S40 m_)))) _ _ _ hf1 hz1
  obtain ⟨A1, c1, e1, hl1, hC1⟩ := hK1
  simp [Value.cells] at e1
  obtain ⟨rfl, rfl, rfl⟩ := e1
  obtain ⟨a2, len2, cap2, rfl⟩ := okWide_slice Try.underlying33 (hval 2 33 v2 rfl rfl)
  have k2 := h2
  have lt2 : ∀ x ∈ p2, x.block < W.heap.size := by obtain ⟨m, hm⟩ := k2; exact DataW.trod_lt m _ _ _ hm
  obtain ⟨fu2, hf2⟩ := h2
  have hz2 : ∀ n ∈ d2.weights Try.prog 33, n ≤ reachBytes := fun n hn => by simpa using List.all_eq_true.1 hsz n (DataW.weights_mem_each (j := 2) (t := 33) rfl rfl n hn)
  obtain ⟨l2, hK2, ok2⟩ := (show Opens enc Try.prog W 33 (Kd.slice 40 k40) (fun x_ => (x_.length * 40 ≤ 140737488351232 ∧ ∀ y0_ ∈ x_, okS40 y0_)) fu2 from (opens_slice (d := k40) (ok := (fun x_ => okS40 x_)) 40 Try.underlying33 (by kernel_rfl) (by kernel_rfl) (fun m_ hm_ => (open_S40 m_)))) _ _ _ hf2 hz2
  obtain ⟨A2, c2, e2, hl2, hC2⟩ := hK2
  simp [Value.cells] at e2
  obtain ⟨rfl, rfl, rfl⟩ := e2
  obtain ⟨k_, hk_⟩ := Pure.BloomNone a0 l1 l2 w0 ok1 ok2
  refine (colonnadelaw13_BloomNone.calls k_ a0 _ _ l1 _ _ l2 true W hC1 hl1 hC2 hl2 hk_).mono fun e W' ⟨he, bel⟩ => ?_
  subst he
  exact ⟨_, rfl, _, _, _, [], _, [], hW', trodAll_mk1 (shut_bool Try.underlying4 _), (trodAll_cons_mk (shut_int Try.underlying3 w0) (trodAll_cons_mk (Below.trod laidOut (by kernel_rfl) (of_decide_eq_true (by kernel_rfl)) k1 bel lt1) (trodAll_cons_mk (Below.trod laidOut (by kernel_rfl) (of_decide_eq_true (by kernel_rfl)) k2 bel lt2) trodAll_mk0))), rfl, bel.frame _, fun h => by cases h⟩
theorem over : Rows.bloomNoneRow.holds Try.pinned (OpenSpec.ofChange Rows.bloomNoneSpec) :=
  OpenClaim.holds_of_wide 7 Try.f7 rfl rfl rfl rfl rfl rfl rfl ⟨rfl, rfl, rfl, rfl, rfl⟩ rfl rfl rfl rfl rfl (by kernel_rfl) Try.func7 (by kernel_rfl)
    (of_decide_eq_true (by kernel_rfl)) (by unfold Func.isWrapper; first | (rw [if_pos (by decide +kernel)]; kernel_rfl) | (rw [if_neg (by decide +kernel)]; exact ⟨rfl, rfl⟩))
    (fun os started H enc _ => lifted os started H enc)
end Go.Proofs.Ytgmeefgihidomaa.bloomNone
namespace Go.Proofs.Ytgmeefgihidomaa
/-- The row, under a short name, for the claim. -/
theorem bloomNone_holds : Rows.BloomNoneSaid := bloomNone.over
#print axioms bloomNone_holds
end Go.Proofs.Ytgmeefgihidomaa
