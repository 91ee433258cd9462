/- The texts of RunsBack, merged: part 39. -/
import Derived.Test.YthlpkdmandcngaaQRunsBack38
import Derived.Test.YthlpkdmandcngaaQRunsBack19
/- PutTexts' function value, its walk by hand. -/
namespace Go.Proofs.Ythlpkdmandcngaa.Pa
open Go.RowKit Go.Proofs.YthlpkdmandcngaaW.PrintWords Go.Proofs.YthlpkdmandcngaaW.PrintLast Go.Proofs.YthlpkdmandcngaaW.PrintMore
set_option linter.unusedVariables false
def runs_PutTexts_1.f (k : Nat) (l0 : List Int) (a1 : ByteArray) : Option (List Int) := if a1.size < 140737488355328 then cursor_PutBlock.f k l0 (bytesOf a1) else none
theorem runs_PutTexts_1.mono : ∀ a0 a1 k, LeO (runs_PutTexts_1.f k a0 a1) (runs_PutTexts_1.f (k + 1) a0 a1) := by
  intro a0 a1 k
  unfold runs_PutTexts_1.f
  exact LeO.ite (cursor_PutBlock.mono _ _ _) (LeO.refl _)
set_option maxHeartbeats 4000000 in
theorem runs_PutTexts_1.calls (k : Nat) (A0 : Option Addr) (c0 : Nat) (l0 : List Int) (a1 : ByteArray) (r : List Int) (w : World) (hr0 : Kd.C (Kd.int .u8) w A0 l0.length l0) (hc0 : l0.length ≤ c0) (h : runs_PutTexts_1.f k l0 a1 = some r) :
    Calls Try.prog 57 #[.slice A0 l0.length c0, .string a1] w fun e w' => ∃ v0_ : Value, e = .returned (v0_) ∧ Kd.R (Kd.int .u8) 5 w' w.heap.size (fun _ => True) v0_ r ∧ Below w.heap.size w w' := by
  unfold runs_PutTexts_1.f at h
  split at h
  case isFalse => cases h
  rename_i hs
  have hcv : ∀ W : World, (convert 9 34 (.string a1)).run Try.prog W = .ok (.slice (some ⟨W.heap.size, 0, none⟩) (bytesOf a1).length (grownCap W a1.size 0 5)) (Lib.bytesWorld W 5 a1) := fun W => by
    rw [bytesOf_length]
    exact Lib.run_convert_string_bytes W _ _ _ a1 Try.underlying9 Try.underlying34 Try.underlying5
  have HB := Aside0.mk (bytesW_below w 5 a1)
  have HC := Aside0.mk (cursor_PutBlock.calls k A0 c0 l0 _ _ (bytesOf a1) r (Lib.bytesWorld w 5 a1) (Kd.C_below hr0 HB.out) hc0 (bytesW_C w 5 a1 (by omega)) (bytesW_cap w 5 a1) h)
  clear h hr0 hs
  go_enter Try.func57, Try.ntmps57
  go_wp2_with (go_at_call 58; refine HC.out.mono ?_; rintro e w2 ⟨v0, rfl, hv, hb⟩)
  go_ret
  exact ⟨_, rfl, Kd.R_lower hv HB.out.size, below_step HB.out hb⟩
end Go.Proofs.Ythlpkdmandcngaa.Pa
