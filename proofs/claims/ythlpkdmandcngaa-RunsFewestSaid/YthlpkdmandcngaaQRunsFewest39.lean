/- The texts of RunsFewest, merged: part 39. -/
import Derived.Test.YthlpkdmandcngaaQRunsFewest20
import Derived.Test.YthlpkdmandcngaaQRunsFewest6
import Derived.Test.YthlpkdmandcngaaQRunsFewest38
/- RunsFewest: what was folded is unfolded again, value by value; any other runs that mean the same are as many at least. -/
namespace Go.Proofs.Ythlpkdmandcngaa.Pure
open Go.RowKit Go.Proofs.Ythlpkdmandcngaa.Pa Go.Proofs.Ythlpkdmandcngaa.L Go.Proofs.Ythlpkdmandcngaa.O Go.Proofs.YthlpkdmandcngaaW.PrintWords Go.Proofs.YthlpkdmandcngaaW.PrintLast Go.Proofs.YthlpkdmandcngaaW.PrintMore
set_option linter.unusedVariables false
set_option linter.unusedSimpArgs false
theorem awake_e : Evn (fun k => colonnadelaw10_awake.f k) true := Evn.up 20 colonnadelaw10_awake.mono (by kernel_rfl)
section
variable {l0 : List ByteArray} {l1 r : List S42} (hl : l0.length ≤ 16777216) (hr : tFo l0 r) (hl1 : l1.length * 24 ≤ 140737488351232) (hv : ∀ s ∈ l1, -9223372036854775808 ≤ s.f1 ∧ s.f1 ≤ 9223372036854775807)
include hl hr hl1 hv
theorem fin (i : Int) : Evn (fun k => colonnadelaw10_RunsFewest.j2 k l0 l1 r i false) true := by
  refine Evn.succ (fun _ => rfl) ?_
  simp only [colonnadelaw10_RunsFewest.j2]
  refine Evn.neg (by decide) ?_
  have h := at_e hr hl l0.length (by omega)
  rw [List.getElem?_eq_none (Nat.le_refl _)] at h
  refine Evn.bind h ?_
  obtain ⟨out, e, hu, hc⟩ := tunf_e l1 (by omega) hv
  refine Evn.bind hu (Evn.neg (by decide) ?_)
  rcases hc with ⟨rfl, h1, h2, rfl⟩ | ⟨he, rfl, _⟩
  · have ho : (unf (l1.map tpr)).length ≤ 16777216 := by rw [tsm_unf]; exact h2
    obtain ⟨r2, hr2, he2⟩ := tfold_e (unf (l1.map tpr)) (by omega)
    have hle := Pr_least hr2.pr hr2.un
    rw [List.length_map, List.length_map] at hle
    refine Evn.pos rfl (Evn.bind he2 (Evn.bind (tunf_of hr2 ho) (Evn.pos rfl (Evn.pos (by omega) (Evn.bind (tsame_e (unf (l1.map tpr)) (by omega)) (Evn.now _))))))
  · exact Evn.neg he (Evn.now _)
theorem loop (d : Nat) : ∀ i : Nat, i + d = l0.length → Evn (fun k => colonnadelaw10_RunsFewest.l0 k l0 l1 r (i : Int)) true := by
  induction d with
  | zero =>
    intro i hi
    refine Evn.succ (fun _ => rfl) ?_
    simp only [colonnadelaw10_RunsFewest.l0]
    exact Evn.neg (by omega) (fin hl hr hl1 hv _)
  | succ d ih =>
    intro i hi
    have hi' : i < l0.length := by omega
    refine Evn.succ (fun _ => rfl) ?_
    simp only [colonnadelaw10_RunsFewest.l0]
    refine Evn.pos (by omega) ?_
    by_cases h2 : (i : Int) < 2000
    · rw [decide_eq_true h2]
      refine Evn.succ (fun _ => rfl) ?_
      simp only [colonnadelaw10_RunsFewest.j2]
      refine Evn.pos trivial ?_
      have h := at_e hr hl i (by omega)
      rw [List.getElem?_eq_getElem hi'] at h
      refine Evn.bind h (Evn.pos (by omega) (Evn.pos (by omega) ?_))
      rw [te_at l0 i hi', wrap64_in (n := (i : Int) + 1) (by omega) (by omega), show (i : Int) + 1 = ((i + 1 : Nat) : Int) by omega]
      exact Evn.pos rfl (Evn.pos rfl (ih (i + 1) (by omega)))
    · rw [decide_eq_false h2]
      exact fin hl hr hl1 hv _
end
theorem RunsFewest (l0 : (List ByteArray)) (l1 : (List S42)) (h0 : (l0.length * 16 ≤ 140737488351232 ∧ ∀ y0_ ∈ l0, y0_.size ≤ 140737488351232)) (h1 : (l1.length * 24 ≤ 140737488351232 ∧ ∀ y0_ ∈ l1, okS42 y0_)) : ∃ k, colonnadelaw10_RunsFewest.f k l0 l1 = some true := by
  have hv : ∀ s ∈ l1, -9223372036854775808 ≤ s.f1 ∧ s.f1 ≤ 9223372036854775807 := fun s hs => wf_i64 (h1.2 s hs).2
  refine Evn.ex (r := true) ?_
  unfold colonnadelaw10_RunsFewest.f
  refine Evn.bind awake_e (Evn.pos rfl ?_)
  by_cases hl : (l0.length : Int) > 16777216
  · exact Evn.pos hl (Evn.now _)
  · refine Evn.neg hl ?_
    obtain ⟨r, hr, he⟩ := tfold_e l0 (by omega)
    refine Evn.bind he (Evn.bind (tunf_of hr (by omega)) (Evn.pos rfl (Evn.bind (tsame_e l0 (by omega)) ?_)))
    refine Evn.succ (fun _ => rfl) ?_
    simp only [colonnadelaw10_RunsFewest.j0]
    exact Evn.neg (by decide) (loop (by omega) hr h1.1 hv l0.length 0 (by omega))
end Go.Proofs.Ythlpkdmandcngaa.Pure
