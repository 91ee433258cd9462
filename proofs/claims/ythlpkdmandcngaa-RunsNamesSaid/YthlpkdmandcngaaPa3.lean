-- Written by xprint.py, a program of this session, over the kit's print. Not trusted: Lean checks it.
import Derived.Test.YthlpkdmandcngaaPa0
namespace Go.Proofs.Ythlpkdmandcngaa.Pa
open Go.RowKit Go.Proofs.YthlpkdmandcngaaW.PrintWords Go.Proofs.YthlpkdmandcngaaW.PrintLast Go.Proofs.YthlpkdmandcngaaW.PrintMore
attribute [local go_sem] max2_int min2_int max_two min_two max_three min_three max_four min_four   -- for this text's walks alone
attribute [local go_sem] run_store_float
set_option linter.unusedVariables false
set_option linter.unusedSimpArgs false

/-! ### colonnadelaw10_RunsNames: function 3 -/
def colonnadelaw10_RunsNames.f  : Option (Bool) := some true
set_option maxHeartbeats 8000000 in
set_option maxRecDepth 100000 in
theorem colonnadelaw10_RunsNames.calls  (r : Bool) (w : World) (h : colonnadelaw10_RunsNames.f  = some r) :
    Calls Try.prog 3 #[] w fun e w' => e = .returned (.bool r) ∧ Drawn0 w w' := by
  have H : (some true) = some r := h
  clear h
  obtain rfl := Option.some.inj H
  go_enter Try.func3, Try.ntmps3
  go_wp2
  go_ret
  exact ⟨by first | rfl | (simp; done) | (simp [*]; done), by repeat (first | exact Drawn0.refl _ | apply Drawn0.step)⟩

/-- THE ONE PURE STATEMENT of colonnadelaw10_RunsNames: yours. -/
def colonnadelaw10_RunsNames.Pure : Prop := colonnadelaw10_RunsNames.f  = some true
theorem colonnadelaw10_RunsNames.walk (P : colonnadelaw10_RunsNames.Pure)  (w : World)  :
    Calls Try.prog 3 #[] w fun e w' => e = .returned (.bool true) ∧ Below w.heap.size w w' := by
  have h := P  
  refine (colonnadelaw10_RunsNames.calls  true w h).mono ?_
  rintro e w' ⟨rfl, hd⟩
  exact ⟨rfl, hd.below⟩

end Go.Proofs.Ythlpkdmandcngaa.Pa
