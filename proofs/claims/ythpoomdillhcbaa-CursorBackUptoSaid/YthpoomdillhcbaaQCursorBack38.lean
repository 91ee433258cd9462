/- CursorBack: the row, out of the law's walk and its plain law. -/
import Derived.Test.YthpoomdillhcbaaRows
import Derived.Test.YthpoomdillhcbaaQCursorBack6
import Derived.Test.YthpoomdillhcbaaQCursorBack37
import Derived.Test.YthpoomdillhcbaaQCursorBack36
import Derived.WalkKit
import Derived.ProofKit
import Derived.OpenShut
import Derived.ShutString
import Derived.ChangeOld
import Derived.Below
import Derived.SizedLaws
import Derived.JoinedCond
import Derived.Deep.CondSized
/- CursorBack: the row, out of the law's walk and its plain law. -/
namespace Go.Proofs.Ythpoomdillhcbaa.cursorBack
open Go.ChangeShapes Go.WideShapes Go.ChangeAt Go.RowKit Go.Proofs.Ythpoomdillhcbaa.O Go.Proofs.Ythpoomdillhcbaa.Pa Go.Proofs.YthpoomdillhcbaaW.PrintWords
open Go.ChangeMaps (open_string shut_string)
set_option linter.unusedVariables false
set_option linter.unusedSimpArgs false
theorem own : ownKnob Try.prog.godebug = none := by kernel_rfl
theorem laidOut : laidOutB Try.prog = true := by kernel_rfl
set_option maxRecDepth 100000 in
theorem lifted (os : Os) (started : os.Started) (H : Type) (enc : TypeId × Value → H) (F : Stop.Interp) :
    ReturnsInHanded {} Try.checked os 9 .any ((Rows.OpenSpec.upto Rows.cursorBackSpec).pre6 enc Try.prog Try.f9 Rows.cursorBackUptoRow.domain false) (((Rows.OpenSpec.upto Rows.cursorBackSpec).at F).post enc Try.prog Try.f9 false true false false) := by
  refine returnsInHanded_of_cond_sized (C := Try.checked) (s := Rows.OpenSpec.upto Rows.cursorBackSpec) (k := Rows.uptoSmall) rfl own started (by kernel_rfl) Try.func9
    (OpenSpec.witness (enc := enc) (C := Try.checked) (s := Rows.OpenSpec.upto Rows.cursorBackSpec) (k := Rows.uptoSmall) rfl false ⟨#[], #[.slice none 0 0, .int .i64 0], []⟩ 8 (by kernel_rfl) (by kernel_rfl) (by kernel_rfl)
      (x := ([.nil, .lit (.int .i64 0)], [], [])) (by kernel_rfl) rfl (by kernel_rfl)) ?_
  intro W base args ds gs before hval0 hW hcnd hk hsz0 _
  show Calls Try.prog 9 args W fun e W' => ∃ v, e = .returned v ∧ Rows.cursorBackSpec.post enc Try.prog Try.f9 false true false false W args v W'
  have hsz : (DataW.weightsEach Try.prog (Try.f9.params.toList ++ Rows.cursorBackSpec.plain.varTypes Try.prog) (ds ++ gs)).all (· ≤ reachBytes) = true := hsz0
  have hval : ∀ (j : Nat) t v, Try.f9.params[j]? = some t → args[j]? = some v → Value.okWide Try.prog W .any base t v := hval0
  have hW' := hW
  obtain ⟨p, q, hA0, hV, rfl, hfz, hnd⟩ := hW
  have hA : DataW.TrodAll enc Try.prog W 0 (fun _ => true) true Try.f9.params.toList args.toList ds p := hA0
  rw [Try.params9] at hA hval hsz
  obtain ⟨v0, vs0, d0, ds0, p0, q0, hargs, rfl, rfl, h0, r0⟩ := trodAll_cons hA
  obtain ⟨v1, vs1, d1, ds1, p1, q1, rfl, rfl, rfl, h1, r1⟩ := trodAll_cons r0
  obtain ⟨rfl, rfl, rfl⟩ := trodAll_nil r1
  obtain rfl : args = #[v0, v1] := by cases args; simp_all
  obtain ⟨rfl, rfl⟩ := trodVars_none hV
  obtain ⟨a0, len0, cap0, rfl⟩ := okWide_slice Try.underlying73 (hval 0 73 v0 rfl rfl)
  have k0 := h0
  have lt0 : ∀ x ∈ p0, x.block < W.heap.size := by obtain ⟨m, hm⟩ := k0; exact DataW.trod_lt m _ _ _ hm
  obtain ⟨fu0, hf0⟩ := h0
  have hz0 : ∀ n ∈ d0.weights Try.prog 73, n ≤ reachBytes := fun n hn => by simpa using List.all_eq_true.1 hsz n (DataW.weights_mem_each (j := 0) (t := 73) rfl rfl n hn)
  obtain ⟨l0, hK0, ok0, bk0⟩ := (show Opens enc Try.prog W 73 (Kd.slice 76 k76) (fun x_ => (x_.length * 72 ≤ 140737488351232 ∧ ∀ y0_ ∈ x_, okS76 y0_)) (sumB bS76) fu0 from (opens_slice (d := k76) (ok := (fun x_ => okS76 x_)) (m := bS76) 72 Try.underlying73 (by kernel_rfl) (by kernel_rfl) (fun m_ hm_ => (open_S76 m_)))) _ _ _ hf0 hz0
  obtain ⟨A0, c0, e0, hl0, hC0⟩ := hK0
  simp [Value.cells] at e0
  obtain ⟨rfl, rfl, rfl⟩ := e0
  obtain ⟨a1, rfl, rfl, rfl, w1⟩ := open_int Try.underlying3 (hval 1 3 v1 rfl rfl) h1
  have hsm := of_decide_eq_true hk
  simp only [List.cons_append, List.nil_append, List.append_nil, Rows.uptoBulkAll] at hsm
  have hsmall : (sumB bS76) l0 ≤ 1048576 := by have t_ := bk0; exact Nat.le_trans t_ (by omega)
  obtain ⟨k_, hk_⟩ := Pure.CursorBack l0 a1 ok0 w1 hsmall
  refine (colonnadelaw07_CursorBack.calls k_ _ _ l0 a1 true W hC0 hl0 hk_ ⟨rfl⟩).mono fun e W' ⟨he, bel⟩ => ?_
  subst he
  exact ⟨_, rfl, _, _, _, [], _, [], hW', trodAll_mk1 (shut_bool Try.underlying4 _), (trodAll_cons_mk (Below.trod laidOut (by kernel_rfl) (of_decide_eq_true (by kernel_rfl)) k0 bel lt0) (trodAll_cons_mk (shut_int Try.underlying3 w1) trodAll_mk0)), rfl, bel.frame _, fun h => by cases h⟩
theorem over : Rows.cursorBackUptoRow.holds Try.pinned (Rows.OpenSpec.upto Rows.cursorBackSpec) :=
  OpenClaim.holds_of_cond 9 Try.f9 rfl rfl rfl rfl rfl rfl rfl ⟨rfl, rfl, rfl, rfl, rfl⟩ rfl rfl rfl rfl rfl (by kernel_rfl) Try.func9 (by kernel_rfl)
    (of_decide_eq_true (by kernel_rfl)) (by unfold Func.isWrapper; first | (rw [if_pos (by decide +kernel)]; kernel_rfl) | (rw [if_neg (by decide +kernel)]; exact ⟨rfl, rfl⟩))
    (fun os started H enc _ F => lifted os started H enc F)
end Go.Proofs.Ythpoomdillhcbaa.cursorBack
namespace Go.Proofs.Ythpoomdillhcbaa
/-- The row, under a short name, for the claim. -/
theorem cursorBackUpto_holds : Rows.CursorBackUptoSaid := cursorBack.over
#print axioms cursorBackUpto_holds
end Go.Proofs.Ythpoomdillhcbaa
