/- AtomBounded: the row, out of the law's walk and its plain law. -/
import Derived.Test.YtkedejphebfneaaRows
import Derived.Test.YtkedejphebfneaaQAtomBounded8
import Derived.Test.YtkedejphebfneaaQAtomBounded33
import Derived.Test.YtkedejphebfneaaQAtomBounded21
import Derived.WalkKit
import Derived.ProofKit
import Derived.OpenShut
import Derived.ShutString
import Derived.ChangeOld
import Derived.Below
import Derived.SizedLaws
/- AtomBounded: the row, out of the law's walk and its plain law. -/
namespace Go.Proofs.Ytkedejphebfneaa.atomBounded
open Go.ChangeShapes Go.WideShapes Go.ChangeAt Go.RowKit Go.Proofs.Ytkedejphebfneaa.O Go.Proofs.Ytkedejphebfneaa.Pa Go.Proofs.YtkedejphebfneaaW.PrintWords
open Go.ChangeMaps (open_string shut_string)
set_option linter.unusedVariables false
set_option linter.unusedSimpArgs false
theorem own : ownKnob Try.prog.godebug = none := by kernel_rfl
theorem laidOut : laidOutB Try.prog = true := by kernel_rfl
set_option maxRecDepth 100000 in
theorem lifted (os : Os) (started : os.Started) (H : Type) (enc : TypeId × Value → H) :
  ReturnsInHanded {} Try.checked os 9 .any (Rows.atomBoundedSpec.pre6 enc Try.prog Try.f9 Rows.atomBoundedRow.domain false) (Rows.atomBoundedSpec.post enc Try.prog Try.f9 false true false false) := by
 refine returnsInHanded_of_change_sized (C := Try.checked) own started (by kernel_rfl) Try.func9
  (ChangeSpec.witness6 (enc := enc) (C := Try.checked) false ⟨#[], #[.agg #[.int .i64 0, .string ByteArray.empty, .int .i64 0, .int .i64 0, .int .i64 0, .float .f64 0, .string ByteArray.empty, .slice none 0 0, .slice none 0 0], .agg #[.int .i64 0, .int .i64 0, .float .f64 0, .string ByteArray.empty]], []⟩ 8 (by kernel_rfl) (by kernel_rfl) (by kernel_rfl) (by kernel_rfl)) ?_
 intro W base args ds gs before hval0 hW hcnd hsz0 _
 have hsz : (DataW.weightsEach Try.prog (Try.f9.params.toList ++ Rows.atomBoundedSpec.plain.varTypes Try.prog) (ds ++ gs)).all (· ≤ reachBytes) = true := hsz0
 have hval : ∀ (j : Nat) t v, Try.f9.params[j]? = some t → args[j]? = some v → Value.okWide Try.prog W .any base t v := hval0
 have hW' := hW
 obtain ⟨p, q, hA0, hV, rfl, hfz, hnd⟩ := hW
 have hA : DataW.TrodAll enc Try.prog W 0 (fun _ => true) true Try.f9.params.toList args.toList ds p := hA0
 rw [Try.params9] at hA hval hsz
 obtain ⟨v0, vs0, d0, ds0, p0, q0, hargs, rfl, rfl, h0, r0⟩ := trodAll_cons hA
 obtain ⟨v1, vs1, d1, ds1, p1, q1, rfl, rfl, rfl, h1, r1⟩ := trodAll_cons r0
 obtain ⟨rfl, rfl, rfl⟩ := trodAll_nil r1
 obtain rfl : args = #[v0, v1] := by cases args; simp_all
 obtain ⟨rfl, rfl⟩ := trodVars_none hV
 obtain ⟨ca0, rfl, hs0⟩ := okWide_struct Try.underlying32 (hval 0 32 v0 rfl rfl)
 have k0 := h0
 have lt0 : ∀ x ∈ p0, x.block < W.heap.size := by obtain ⟨m, hm⟩ := k0; exact DataW.trod_lt m _ _ _ hm
 obtain ⟨fu0, hf0⟩ := h0
 have hz0 : ∀ n ∈ d0.weights Try.prog 32, n ≤ reachBytes := fun n hn => by simpa using List.all_eq_true.1 hsz n (DataW.weights_mem_each (j := 0) (t := 32) rfl rfl n hn)
 obtain ⟨l0, hK0, ok0, bk0⟩ := (show Opens enc Try.prog W 32 k32 (fun x_ => okS32 x_) bS32 fu0 from (open_S32 fu0)) _ _ _ hf0 hz0
 obtain ⟨A0_7, c0_7, A0_8, c0_8, e0, hl0_7, hC0_7, hl0_8, hC0_8⟩ := k32_open hK0
 obtain rfl : ca0 = #[.int .i64 l0.f0, .string l0.f1, .int .i64 l0.f2, .int .i64 l0.f3.f0, .int .i64 l0.f3.f1, .float .f64 l0.f3.f2, .string l0.f3.f3, .slice A0_7 l0.f4.length c0_7, .slice A0_8 l0.f5.length c0_8] := by cases ca0; simpa [Value.cells] using e0
 obtain ⟨ca1, rfl, hs1⟩ := okWide_struct Try.underlying28 (hval 1 28 v1 rfl rfl)
 have k1 := h1
 have lt1 : ∀ x ∈ p1, x.block < W.heap.size := by obtain ⟨m, hm⟩ := k1; exact DataW.trod_lt m _ _ _ hm
 obtain ⟨fu1, hf1⟩ := h1
 have hz1 : ∀ n ∈ d1.weights Try.prog 28, n ≤ reachBytes := fun n hn => by simpa using List.all_eq_true.1 hsz n (DataW.weights_mem_each (j := 1) (t := 28) rfl rfl n hn)
 obtain ⟨l1, hK1, ok1, bk1⟩ := (show Opens enc Try.prog W 28 k28 (fun x_ => okS28 x_) bS28 fu1 from (open_S28 fu1)) _ _ _ hf1 hz1
 obtain e1 := k28_open hK1
 obtain rfl : ca1 = #[.int .i64 l1.f0, .int .i64 l1.f1, .float .f64 l1.f2, .string l1.f3] := by cases ca1; simpa [Value.cells] using e1
 obtain ⟨k_, hk_⟩ := Pure.AtomBounded l0 l1 ok0 ok1
 refine (colonnadelaw18_AtomBounded.calls k_ (l0.f0) (l0.f1) (l0.f2) (l0.f3.f0) (l0.f3.f1) (l0.f3.f2) (l0.f3.f3) _ _ l0.f4 _ _ l0.f5 (l1.f0) (l1.f1) (l1.f2) (l1.f3) true W hC0_7 hl0_7 hC0_8 hl0_8 hk_ ⟨rfl⟩).mono fun e W' ⟨he, bel⟩ => ?_
 subst he
 exact ⟨_, rfl, _, _, _, [], _, [], hW', trodAll_mk1 (shut_bool Try.underlying4 _), (trodAll_cons_mk (Below.trod laidOut (by kernel_rfl) (of_decide_eq_true (by kernel_rfl)) k0 bel lt0) (trodAll_cons_mk (Below.trod laidOut (by kernel_rfl) (of_decide_eq_true (by kernel_rfl)) k1 bel lt1) trodAll_mk0)), rfl, bel.frame _, fun h => by cases h⟩
theorem over : Rows.atomBoundedRow.holds Try.pinned (OpenSpec.ofChange Rows.atomBoundedSpec) :=
 OpenClaim.holds_of_wide 9 Try.f9 rfl rfl rfl rfl rfl rfl rfl ⟨rfl, rfl, rfl, rfl, rfl⟩ rfl rfl rfl rfl rfl (by kernel_rfl) Try.func9 (by kernel_rfl)
  (of_decide_eq_true (by kernel_rfl)) (by unfold Func.isWrapper; first | (rw [if_pos (by decide +kernel)]; kernel_rfl) | (rw [if_neg (by decide +kernel)]; exact ⟨rfl, rfl⟩))
  (fun os started H enc _ => lifted os started H enc)
end Go.Proofs.Ytkedejphebfneaa.atomBounded
namespace Go.Proofs.Ytkedejphebfneaa
theorem atomBounded_holds : Rows.AtomBoundedSaid := atomBounded.over
#print axioms atomBounded_holds
end Go.Proofs.Ytkedejphebfneaa
