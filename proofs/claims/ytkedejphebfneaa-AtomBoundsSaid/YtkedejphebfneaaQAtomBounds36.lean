/- AtomBounds: the row, out of the law's walk and its plain law. -/
import Derived.Test.YtkedejphebfneaaRows
import Derived.Test.YtkedejphebfneaaQAtomBounds8
import Derived.Test.YtkedejphebfneaaQAtomBounds35
import Derived.Test.YtkedejphebfneaaQAtomBounds28
import Derived.WalkKit
import Derived.ProofKit
import Derived.OpenShut
import Derived.ShutString
import Derived.ChangeOld
import Derived.Below
import Derived.SizedLaws
/- AtomBounds: the row, out of the law's walk and its plain law. -/
namespace Go.Proofs.Ytkedejphebfneaa.atomBounds
open Go.ChangeShapes Go.WideShapes Go.ChangeAt Go.RowKit Go.Proofs.Ytkedejphebfneaa.O Go.Proofs.Ytkedejphebfneaa.Pa Go.Proofs.YtkedejphebfneaaW.PrintWords
open Go.ChangeMaps (open_string shut_string)
set_option linter.unusedVariables false
set_option linter.unusedSimpArgs false
theorem own : ownKnob Try.prog.godebug = none := by kernel_rfl
theorem laidOut : laidOutB Try.prog = true := by kernel_rfl
set_option maxRecDepth 100000 in
theorem lifted (os : Os) (started : os.Started) (H : Type) (enc : TypeId × Value → H) :
  ReturnsInHanded {} Try.checked os 7 .any (Rows.atomBoundsSpec.pre6 enc Try.prog Try.f7 Rows.atomBoundsRow.domain false) (Rows.atomBoundsSpec.post enc Try.prog Try.f7 false true false false) := by
 refine returnsInHanded_of_change_sized (C := Try.checked) own started (by kernel_rfl) Try.func7
  (ChangeSpec.witness6 (enc := enc) (C := Try.checked) false ⟨#[], #[.agg #[.int .i64 0, .string ByteArray.empty, .int .i64 0, .int .i64 0, .int .i64 0, .float .f64 0, .string ByteArray.empty, .slice none 0 0, .slice none 0 0]], []⟩ 8 (by kernel_rfl) (by kernel_rfl) (by kernel_rfl) (by kernel_rfl)) ?_
 intro W base args ds gs before hval0 hW hcnd hsz0 _
 have hsz : (DataW.weightsEach Try.prog (Try.f7.params.toList ++ Rows.atomBoundsSpec.plain.varTypes Try.prog) (ds ++ gs)).all (· ≤ reachBytes) = true := hsz0
 have hval : ∀ (j : Nat) t v, Try.f7.params[j]? = some t → args[j]? = some v → Value.okWide Try.prog W .any base t v := hval0
 have hW' := hW
 obtain ⟨p, q, hA0, hV, rfl, hfz, hnd⟩ := hW
 have hA : DataW.TrodAll enc Try.prog W 0 (fun _ => true) true Try.f7.params.toList args.toList ds p := hA0
 rw [Try.params7] at hA hval hsz
 obtain ⟨v0, vs0, d0, ds0, p0, q0, hargs, rfl, rfl, h0, r0⟩ := trodAll_cons hA
 obtain ⟨rfl, rfl, rfl⟩ := trodAll_nil r0
 obtain rfl : args = #[v0] := by cases args; simp_all
 obtain ⟨rfl, rfl⟩ := trodVars_none hV
 obtain ⟨ca0, rfl, hs0⟩ := okWide_struct Try.underlying32 (hval 0 32 v0 rfl rfl)
 have k0 := h0
 have lt0 : ∀ x ∈ p0, x.block < W.heap.size := by obtain ⟨m, hm⟩ := k0; exact DataW.trod_lt m _ _ _ hm
 obtain ⟨fu0, hf0⟩ := h0
 have hz0 : ∀ n ∈ d0.weights Try.prog 32, n ≤ reachBytes := fun n hn => by simpa using List.all_eq_true.1 hsz n (DataW.weights_mem_each (j := 0) (t := 32) rfl rfl n hn)
 obtain ⟨l0, hK0, ok0, bk0⟩ := (show Opens enc Try.prog W 32 k32 (fun x_ => okS32 x_) bS32 fu0 from (open_S32 fu0)) _ _ _ hf0 hz0
 obtain ⟨A0_7, c0_7, A0_8, c0_8, e0, hl0_7, hC0_7, hl0_8, hC0_8⟩ := k32_open hK0
 obtain rfl : ca0 = #[.int .i64 l0.f0, .string l0.f1, .int .i64 l0.f2, .int .i64 l0.f3.f0, .int .i64 l0.f3.f1, .float .f64 l0.f3.f2, .string l0.f3.f3, .slice A0_7 l0.f4.length c0_7, .slice A0_8 l0.f5.length c0_8] := by cases ca0; simpa [Value.cells] using e0
 obtain ⟨k_, hk_⟩ := Pure.AtomBounds l0 ok0
 refine (colonnadelaw18_AtomBounds.calls k_ (l0.f0) (l0.f1) (l0.f2) (l0.f3.f0) (l0.f3.f1) (l0.f3.f2) (l0.f3.f3) _ _ l0.f4 _ _ l0.f5 true W hC0_7 hl0_7 hC0_8 hl0_8 hk_ ⟨rfl⟩).mono fun e W' ⟨he, bel⟩ => ?_
 subst he
 exact ⟨_, rfl, _, _, _, [], _, [], hW', trodAll_mk1 (shut_bool Try.underlying4 _), (trodAll_cons_mk (Below.trod laidOut (by kernel_rfl) (of_decide_eq_true (by kernel_rfl)) k0 bel lt0) trodAll_mk0), rfl, bel.frame _, fun h => by cases h⟩
theorem over : Rows.atomBoundsRow.holds Try.pinned (OpenSpec.ofChange Rows.atomBoundsSpec) :=
 OpenClaim.holds_of_wide 7 Try.f7 rfl rfl rfl rfl rfl rfl rfl ⟨rfl, rfl, rfl, rfl, rfl⟩ rfl rfl rfl rfl rfl (by kernel_rfl) Try.func7 (by kernel_rfl)
  (of_decide_eq_true (by kernel_rfl)) (by unfold Func.isWrapper; first | (rw [if_pos (by decide +kernel)]; kernel_rfl) | (rw [if_neg (by decide +kernel)]; exact ⟨rfl, rfl⟩))
  (fun os started H enc _ => lifted os started H enc)
end Go.Proofs.Ytkedejphebfneaa.atomBounds
namespace Go.Proofs.Ytkedejphebfneaa
theorem atomBounds_holds : Rows.AtomBoundsSaid := atomBounds.over
#print axioms atomBounds_holds
end Go.Proofs.Ytkedejphebfneaa
