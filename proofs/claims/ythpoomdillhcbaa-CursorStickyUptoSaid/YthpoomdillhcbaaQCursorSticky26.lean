/- CursorSticky: the row, out of the law's walk and its plain law. -/
import Derived.Test.YthpoomdillhcbaaRows
import Derived.Test.YthpoomdillhcbaaQCursorSticky6
import Derived.Test.YthpoomdillhcbaaQCursorSticky25
import Derived.Test.YthpoomdillhcbaaQCursorSticky24
import Derived.WalkKit
import Derived.ProofKit
import Derived.OpenShut
import Derived.ShutString
import Derived.ChangeOld
import Derived.Below
import Derived.SizedLaws
import Derived.JoinedCond
import Derived.Deep.CondSized
/- CursorSticky: the row, out of the law's walk and its plain law. -/
namespace Go.Proofs.Ythpoomdillhcbaa.cursorSticky
open Go.ChangeShapes Go.WideShapes Go.ChangeAt Go.RowKit Go.Proofs.Ythpoomdillhcbaa.O Go.Proofs.Ythpoomdillhcbaa.Pa Go.Proofs.YthpoomdillhcbaaW.PrintWords
open Go.ChangeMaps (open_string shut_string)
set_option linter.unusedVariables false
set_option linter.unusedSimpArgs false
theorem own : ownKnob Try.prog.godebug = none := by kernel_rfl
theorem laidOut : laidOutB Try.prog = true := by kernel_rfl
set_option maxRecDepth 100000 in
theorem lifted (os : Os) (started : os.Started) (H : Type) (enc : TypeId × Value → H) (F : Stop.Interp) :
    ReturnsInHanded {} Try.checked os 8 .any ((Rows.OpenSpec.upto Rows.cursorStickySpec).pre6 enc Try.prog Try.f8 Rows.cursorStickyUptoRow.domain false) (((Rows.OpenSpec.upto Rows.cursorStickySpec).at F).post enc Try.prog Try.f8 false true false false) := by
  refine returnsInHanded_of_cond_sized (C := Try.checked) (s := Rows.OpenSpec.upto Rows.cursorStickySpec) (k := Rows.uptoSmall) rfl own started (by kernel_rfl) Try.func8
    (OpenSpec.witness (enc := enc) (C := Try.checked) (s := Rows.OpenSpec.upto Rows.cursorStickySpec) (k := Rows.uptoSmall) rfl false ⟨#[], #[.slice none 0 0, .slice none 0 0], []⟩ 8 (by kernel_rfl) (by kernel_rfl) (by kernel_rfl)
      (x := ([.nil, .nil], [], [])) (by kernel_rfl) rfl (by kernel_rfl)) ?_
  intro W base args ds gs before hval0 hW hcnd hk hsz0 _
  show Calls Try.prog 8 args W fun e W' => ∃ v, e = .returned v ∧ Rows.cursorStickySpec.post enc Try.prog Try.f8 false true false false W args v W'
  have hsz : (DataW.weightsEach Try.prog (Try.f8.params.toList ++ Rows.cursorStickySpec.plain.varTypes Try.prog) (ds ++ gs)).all (· ≤ reachBytes) = true := hsz0
  have hval : ∀ (j : Nat) t v, Try.f8.params[j]? = some t → args[j]? = some v → Value.okWide Try.prog W .any base t v := hval0
  have hW' := hW
  obtain ⟨p, q, hA0, hV, rfl, hfz, hnd⟩ := hW
  have hA : DataW.TrodAll enc Try.prog W 0 (fun _ => true) true Try.f8.params.toList args.toList ds p := hA0
  rw [Try.params8] at hA hval hsz
  obtain ⟨v0, vs0, d0, ds0, p0, q0, hargs, rfl, rfl, h0, r0⟩ := trodAll_cons hA
  obtain ⟨v1, vs1, d1, ds1, p1, q1, rfl, rfl, rfl, h1, r1⟩ := trodAll_cons r0
  obtain ⟨rfl, rfl, rfl⟩ := trodAll_nil r1
  obtain rfl : args = #[v0, v1] := by cases args; simp_all
  obtain ⟨rfl, rfl⟩ := trodVars_none hV
  obtain ⟨a0, len0, cap0, rfl⟩ := okWide_slice Try.underlying24 (hval 0 24 v0 rfl rfl)
  have k0 := h0
  have lt0 : ∀ x ∈ p0, x.block < W.heap.size := by obtain ⟨m, hm⟩ := k0; exact DataW.trod_lt m _ _ _ hm
  obtain ⟨fu0, hf0⟩ := h0
  have hz0 : ∀ n ∈ d0.weights Try.prog 24, n ≤ reachBytes := fun n hn => by simpa using List.all_eq_true.1 hsz n (DataW.weights_mem_each (j := 0) (t := 24) rfl rfl n hn)
  obtain ⟨l0, hK0, ok0, bk0⟩ := (show Opens enc Try.prog W 24 (Kd.slice 5 (Kd.int .u8)) (fun x_ => (x_.length * 1 ≤ 140737488351232 ∧ ∀ y0_ ∈ x_, (Lit.int .u8 y0_).wf = true)) (sumB (fun _ => 1)) fu0 from (opens_slice (d := (Kd.int .u8)) (ok := (fun x_ => (Lit.int .u8 x_).wf = true)) (m := (fun _ => 1)) 1 Try.underlying24 (by kernel_rfl) (by kernel_rfl) (fun m_ hm_ => (opens_int Try.underlying5)))) _ _ _ hf0 hz0
  obtain ⟨A0, c0, e0, hl0, hC0⟩ := hK0
  simp [Value.cells] at e0
  obtain ⟨rfl, rfl, rfl⟩ := e0
  obtain ⟨a1, len1, cap1, rfl⟩ := okWide_slice Try.underlying39 (hval 1 39 v1 rfl rfl)
  have k1 := h1
  have lt1 : ∀ x ∈ p1, x.block < W.heap.size := by obtain ⟨m, hm⟩ := k1; exact DataW.trod_lt m _ _ _ hm
  obtain ⟨fu1, hf1⟩ := h1
  have hz1 : ∀ n ∈ d1.weights Try.prog 39, n ≤ reachBytes := fun n hn => by simpa using List.all_eq_true.1 hsz n (DataW.weights_mem_each (j := 1) (t := 39) rfl rfl n hn)
  obtain ⟨l1, hK1, ok1, bk1⟩ := (show Opens enc Try.prog W 39 (Kd.slice 48 k48) (fun x_ => (x_.length * 32 ≤ 140737488351232 ∧ ∀ y0_ ∈ x_, okS48 y0_)) (sumB bS48) fu1 from (opens_slice (d := k48) (ok := (fun x_ => okS48 x_)) (m := bS48) 32 Try.underlying39 (by kernel_rfl) (by kernel_rfl) (fun m_ hm_ => (open_S48 m_)))) _ _ _ hf1 hz1
  obtain ⟨A1, c1, e1, hl1, hC1⟩ := hK1
  simp [Value.cells] at e1
  obtain ⟨rfl, rfl, rfl⟩ := e1
  have hsm := of_decide_eq_true hk
  simp only [List.cons_append, List.nil_append, List.append_nil, Rows.uptoBulkAll] at hsm
  have hsmall : (sumB (fun _ => 1)) l0 + (sumB bS48) l1 ≤ 1048576 := by have t_ := (Nat.add_le_add bk0 bk1); exact Nat.le_trans t_ (by omega)
  obtain ⟨k_, hk_⟩ := Pure.CursorSticky l0 l1 ok0 ok1 hsmall
  refine (colonnadelaw07_CursorSticky.calls k_ _ _ l0 _ _ l1 true W hC0 hl0 hC1 hl1 hk_ ⟨rfl⟩).mono fun e W' ⟨he, bel⟩ => ?_
  subst he
  exact ⟨_, rfl, _, _, _, [], _, [], hW', trodAll_mk1 (shut_bool Try.underlying4 _), (trodAll_cons_mk (Below.trod laidOut (by kernel_rfl) (of_decide_eq_true (by kernel_rfl)) k0 bel lt0) (trodAll_cons_mk (Below.trod laidOut (by kernel_rfl) (of_decide_eq_true (by kernel_rfl)) k1 bel lt1) trodAll_mk0)), rfl, bel.frame _, fun h => by cases h⟩
theorem over : Rows.cursorStickyUptoRow.holds Try.pinned (Rows.OpenSpec.upto Rows.cursorStickySpec) :=
  OpenClaim.holds_of_cond 8 Try.f8 rfl rfl rfl rfl rfl rfl rfl ⟨rfl, rfl, rfl, rfl, rfl⟩ rfl rfl rfl rfl rfl (by kernel_rfl) Try.func8 (by kernel_rfl)
    (of_decide_eq_true (by kernel_rfl)) (by unfold Func.isWrapper; first | (rw [if_pos (by decide +kernel)]; kernel_rfl) | (rw [if_neg (by decide +kernel)]; exact ⟨rfl, rfl⟩))
    (fun os started H enc _ F => lifted os started H enc F)
end Go.Proofs.Ythpoomdillhcbaa.cursorSticky
namespace Go.Proofs.Ythpoomdillhcbaa
/-- The row, under a short name, for the claim. -/
theorem cursorStickyUpto_holds : Rows.CursorStickyUptoSaid := cursorSticky.over
#print axioms cursorStickyUpto_holds
end Go.Proofs.Ythpoomdillhcbaa
