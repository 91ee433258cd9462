/- AtomKleene: the row, out of the law's walk and its plain law. -/
import Derived.Test.YtkedejphebfneaaRows
import Derived.Test.YtkedejphebfneaaQAtomKleene6
import Derived.Test.YtkedejphebfneaaQAtomKleene37
import Derived.WalkKit
import Derived.ProofKit
import Derived.OpenShut
import Derived.ShutString
import Derived.ChangeOld
import Derived.Below
import Derived.SizedLaws
/- AtomKleene: the row, out of the law's walk and its plain law. -/
namespace Go.Proofs.Ytkedejphebfneaa.atomKleene
open Go.ChangeShapes Go.WideShapes Go.ChangeAt Go.RowKit Go.Proofs.Ytkedejphebfneaa.O Go.Proofs.Ytkedejphebfneaa.Pa Go.Proofs.YtkedejphebfneaaW.PrintWords
open Go.ChangeMaps (open_string shut_string)
set_option linter.unusedVariables false
set_option linter.unusedSimpArgs false
theorem own : ownKnob Try.prog.godebug = none := by kernel_rfl
theorem laidOut : laidOutB Try.prog = true := by kernel_rfl
set_option maxRecDepth 100000 in
theorem lifted (os : Os) (started : os.Started) (H : Type) (enc : TypeId × Value → H) :
    ReturnsInHanded {} Try.checked os 11 .any (Rows.atomKleeneSpec.pre6 enc Try.prog Try.f11 Rows.atomKleeneRow.domain false) (Rows.atomKleeneSpec.post enc Try.prog Try.f11 false true false false) := by
  refine returnsInHanded_of_change_sized (C := Try.checked) own started (by kernel_rfl) Try.func11
    (ChangeSpec.witness6 (enc := enc) (C := Try.checked) false ⟨#[], #[.agg #[.int .i64 0, .int .i64 0, .float .f64 0, .string ByteArray.empty], .agg #[.int .i64 0, .int .i64 0, .float .f64 0, .string ByteArray.empty], .agg #[.int .i64 0, .int .i64 0, .float .f64 0, .string ByteArray.empty], .slice none 0 0], []⟩ 8 (by kernel_rfl) (by kernel_rfl) (by kernel_rfl) (by kernel_rfl)) ?_
  intro W base args ds gs before hval0 hW hcnd hsz0 _
  have hsz : (DataW.weightsEach Try.prog (Try.f11.params.toList ++ Rows.atomKleeneSpec.plain.varTypes Try.prog) (ds ++ gs)).all (· ≤ reachBytes) = true := hsz0
  have hval : ∀ (j : Nat) t v, Try.f11.params[j]? = some t → args[j]? = some v → Value.okWide Try.prog W .any base t v := hval0
  have hW' := hW
  obtain ⟨p, q, hA0, hV, rfl, hfz, hnd⟩ := hW
  have hA : DataW.TrodAll enc Try.prog W 0 (fun _ => true) true Try.f11.params.toList args.toList ds p := hA0
  rw [Try.params11] at hA hval hsz
  obtain ⟨v0, vs0, d0, ds0, p0, q0, hargs, rfl, rfl, h0, r0⟩ := trodAll_cons hA
  obtain ⟨v1, vs1, d1, ds1, p1, q1, rfl, rfl, rfl, h1, r1⟩ := trodAll_cons r0
  obtain ⟨v2, vs2, d2, ds2, p2, q2, rfl, rfl, rfl, h2, r2⟩ := trodAll_cons r1
  obtain ⟨v3, vs3, d3, ds3, p3, q3, rfl, rfl, rfl, h3, r3⟩ := trodAll_cons r2
  obtain ⟨rfl, rfl, rfl⟩ := trodAll_nil r3
  obtain rfl : args = #[v0, v1, v2, v3] := by cases args; simp_all
  obtain ⟨rfl, rfl⟩ := trodVars_none hV
  obtain ⟨ca0, rfl, hs0⟩ := okWide_struct Try.underlying28 (hval 0 28 v0 rfl rfl)
  have k0 := h0
  have lt0 : ∀ x ∈ p0, x.block < W.heap.size := by obtain ⟨m, hm⟩ := k0; exact DataW.trod_lt m _ _ _ hm
  obtain ⟨fu0, hf0⟩ := h0
  have hz0 : ∀ n ∈ d0.weights Try.prog 28, n ≤ reachBytes := fun n hn => by simpa using List.all_eq_true.1 hsz n (DataW.weights_mem_each (j := 0) (t := 28) rfl rfl n hn)
  obtain ⟨l0, hK0, ok0, bk0⟩ := (show Opens enc Try.prog W 28 k28 (fun x_ => okS28 x_) bS28 fu0 from (open_S28 fu0)) _ _ _ hf0 hz0
  obtain e0 := k28_open hK0
  obtain rfl : ca0 = #[.int .i64 l0.f0, .int .i64 l0.f1, .float .f64 l0.f2, .string l0.f3] := by cases ca0; simpa [Value.cells] using e0
  obtain ⟨ca1, rfl, hs1⟩ := okWide_struct Try.underlying28 (hval 1 28 v1 rfl rfl)
  have k1 := h1
  have lt1 : ∀ x ∈ p1, x.block < W.heap.size := by obtain ⟨m, hm⟩ := k1; exact DataW.trod_lt m _ _ _ hm
  obtain ⟨fu1, hf1⟩ := h1
  have hz1 : ∀ n ∈ d1.weights Try.prog 28, n ≤ reachBytes := fun n hn => by simpa using List.all_eq_true.1 hsz n (DataW.weights_mem_each (j := 1) (t := 28) rfl rfl n hn)
  obtain ⟨l1, hK1, ok1, bk1⟩ := (show Opens enc Try.prog W 28 k28 (fun x_ => okS28 x_) bS28 fu1 from (open_S28 fu1)) _ _ _ hf1 hz1
  obtain e1 := k28_open hK1
  obtain rfl : ca1 = #[.int .i64 l1.f0, .int .i64 l1.f1, .float .f64 l1.f2, .string l1.f3] := by cases ca1; simpa [Value.cells] using e1
  obtain ⟨ca2, rfl, hs2⟩ := okWide_struct Try.underlying28 (hval 2 28 v2 rfl rfl)
  have k2 := h2
  have lt2 : ∀ x ∈ p2, x.block < W.heap.size := by obtain ⟨m, hm⟩ := k2; exact DataW.trod_lt m _ _ _ hm
  obtain ⟨fu2, hf2⟩ := h2
  have hz2 : ∀ n ∈ d2.weights Try.prog 28, n ≤ reachBytes := fun n hn => by simpa using List.all_eq_true.1 hsz n (DataW.weights_mem_each (j := 2) (t := 28) rfl rfl n hn)
  obtain ⟨l2, hK2, ok2, bk2⟩ := (show Opens enc Try.prog W 28 k28 (fun x_ => okS28 x_) bS28 fu2 from (open_S28 fu2)) _ _ _ hf2 hz2
  obtain e2 := k28_open hK2
  obtain rfl : ca2 = #[.int .i64 l2.f0, .int .i64 l2.f1, .float .f64 l2.f2, .string l2.f3] := by cases ca2; simpa [Value.cells] using e2
  obtain ⟨a3, len3, cap3, rfl⟩ := okWide_slice Try.underlying25 (hval 3 25 v3 rfl rfl)
  have k3 := h3
  have lt3 : ∀ x ∈ p3, x.block < W.heap.size := by obtain ⟨m, hm⟩ := k3; exact DataW.trod_lt m _ _ _ hm
  obtain ⟨fu3, hf3⟩ := h3
  have hz3 : ∀ n ∈ d3.weights Try.prog 25, n ≤ reachBytes := fun n hn => by simpa using List.all_eq_true.1 hsz n (DataW.weights_mem_each (j := 3) (t := 25) rfl rfl n hn)
  obtain ⟨l3, hK3, ok3, bk3⟩ := (show Opens enc Try.prog W 25 (Kd.slice 28 k28) (fun x_ => (x_.length * 40 ≤ 140737488351232 ∧ ∀ y0_ ∈ x_, okS28 y0_)) (sumB bS28) fu3 from (opens_slice (d := k28) (ok := (fun x_ => okS28 x_)) (m := bS28) 40 Try.underlying25 (by kernel_rfl) (by kernel_rfl) (fun m_ hm_ => (open_S28 m_)))) _ _ _ hf3 hz3
  obtain ⟨A3, c3, e3, hl3, hC3⟩ := hK3
  simp [Value.cells] at e3
  obtain ⟨rfl, rfl, rfl⟩ := e3
  refine (Walk.AtomKleene (l0.f0) (l0.f1) (l0.f2) (l0.f3) (l1.f0) (l1.f1) (l1.f2) (l1.f3) (l2.f0) (l2.f1) (l2.f2) (l2.f3) _ _ l3 W hC3 hl3 ok0 ok1 ok2 ok3).mono fun e W' ⟨he, bel⟩ => ?_
  subst he
  exact ⟨_, rfl, _, _, _, [], _, [], hW', trodAll_mk1 (shut_bool Try.underlying4 _), (trodAll_cons_mk (Below.trod laidOut (by kernel_rfl) (of_decide_eq_true (by kernel_rfl)) k0 bel lt0) (trodAll_cons_mk (Below.trod laidOut (by kernel_rfl) (of_decide_eq_true (by kernel_rfl)) k1 bel lt1) (trodAll_cons_mk (Below.trod laidOut (by kernel_rfl) (of_decide_eq_true (by kernel_rfl)) k2 bel lt2) (trodAll_cons_mk (Below.trod laidOut (by kernel_rfl) (of_decide_eq_true (by kernel_rfl)) k3 bel lt3) trodAll_mk0)))), rfl, bel.frame _, fun h => by cases h⟩
theorem over : Rows.atomKleeneRow.holds Try.pinned (OpenSpec.ofChange Rows.atomKleeneSpec) :=
  OpenClaim.holds_of_wide 11 Try.f11 rfl rfl rfl rfl rfl rfl rfl ⟨rfl, rfl, rfl, rfl, rfl⟩ rfl rfl rfl rfl rfl (by kernel_rfl) Try.func11 (by kernel_rfl)
    (of_decide_eq_true (by kernel_rfl)) (by unfold Func.isWrapper; first | (rw [if_pos (by decide +kernel)]; kernel_rfl) | (rw [if_neg (by decide +kernel)]; exact ⟨rfl, rfl⟩))
    (fun os started H enc _ => lifted os started H enc)
end Go.Proofs.Ytkedejphebfneaa.atomKleene
namespace Go.Proofs.Ytkedejphebfneaa
/-- The row, under a short name, for the claim. -/
theorem atomKleene_holds : Rows.AtomKleeneSaid := atomKleene.over
#print axioms atomKleene_holds
end Go.Proofs.Ytkedejphebfneaa
