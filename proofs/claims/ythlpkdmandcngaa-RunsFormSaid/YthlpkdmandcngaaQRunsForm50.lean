/- The texts of RunsForm, merged: part 50. -/
import Derived.Test.YthlpkdmandcngaaQRunsForm5
import Derived.Test.YthlpkdmandcngaaQRunsForm33
import Derived.Test.YthlpkdmandcngaaQRunsForm24
import Derived.Test.YthlpkdmandcngaaQRunsForm31
import Derived.Test.YthlpkdmandcngaaQRunsForm23
import Derived.Test.YthlpkdmandcngaaQRunsForm36
import Derived.Test.YthlpkdmandcngaaQRunsForm40
import Derived.Test.YthlpkdmandcngaaQRunsForm44
import Derived.Test.YthlpkdmandcngaaQRunsForm47
import Derived.Test.YthlpkdmandcngaaQRunsForm26
import Derived.Test.YthlpkdmandcngaaQRunsForm49
import Derived.Test.YthlpkdmandcngaaQRunsForm25
-- Written by xprint.py, a program of this session, over the kit's print. Not trusted: Lean checks it.
namespace Go.Proofs.Ythlpkdmandcngaa.Pa
open Go.RowKit Go.Proofs.YthlpkdmandcngaaW.PrintWords Go.Proofs.YthlpkdmandcngaaW.PrintLast Go.Proofs.YthlpkdmandcngaaW.PrintMore
attribute [local go_sem] max2_int min2_int max_two min_two max_three min_three max_four min_four   -- for this text's walks alone
attribute [local go_sem] run_store_float cmp_feq cmp_fne cmp_flt cmp_fle cmp_fgt cmp_fge un_fneg equalIn_feq run_fop run_fint run_freal cmp_sgt
set_option linter.unusedVariables false
set_option linter.unusedSimpArgs false

/-! ### colonnadelaw10_RunsForm: function 8 -/
mutual
def colonnadelaw10_RunsForm.j0 : Nat → List Int → Int → List (S38) → Int → List (S42) → Int → List Int → List ByteArray → Bool → Option (Bool)
  | 0, _, _, _, _, _, _, _, _, _ => none
  | k + 1, x0, x1, x5, x6, x7, x8, x9, x11, x60 => if x60 = true then (some false) else (if x6 = 0 then (if (x9.length : Int) = x1 then ((runs_PutInts.f k x9).bind fun t663 => (if (strOfNums t663).toList = (strOfNums x0).toList then ((runs_Fold_int64.f k x9).bind fun t666 => ((runs_Run_int64_17.f k t666 x5).bind fun t669 => (colonnadelaw10_RunsForm.j1 k x0 x1 x7 x8 x11 (!t669)))) else (colonnadelaw10_RunsForm.j1 k x0 x1 x7 x8 x11 true))) else (colonnadelaw10_RunsForm.j1 k x0 x1 x7 x8 x11 true)) else (colonnadelaw10_RunsForm.j1 k x0 x1 x7 x8 x11 false))
def colonnadelaw10_RunsForm.j1 : Nat → List Int → Int → List (S42) → Int → List ByteArray → Bool → Option (Bool)
  | 0, _, _, _, _, _, _ => none
  | k + 1, x0, x1, x7, x8, x11, x83 => if x83 = true then (some false) else (if x8 = 0 then (if (x11.length : Int) = x1 then ((runs_PutTexts.f k x11).bind fun t670 => (if (strOfNums t670).toList = (strOfNums x0).toList then ((runs_Fold_string.f k x11).bind fun t673 => ((runs_Run_string_19.f k t673 x7).bind fun t676 => (some t676))) else (some false))) else (some false)) else (some true))
end
def colonnadelaw10_RunsForm.f (k : Nat) (l0 : List Int) (a1 : Int) : Option (Bool) := (colonnadelaw10_awake.f k).bind fun t646 => (if t646 = true then ((runs_Ints.f k l0 a1).bind fun bt647 => ((runs_Texts.f k l0 a1).bind fun bt651 => ((runs_Unfold_int64.f k bt647.1).bind fun bt655 => ((runs_Unfold_string.f k bt651.1).bind fun bt659 => (if bt655.2 = 0 then (if bt659.2 = 0 then (if bt647.2 = 0 then (if bt651.2 = 0 then (colonnadelaw10_RunsForm.j0 k l0 a1 bt647.1 bt647.2 bt651.1 bt651.2 bt655.1 bt659.1 false) else (colonnadelaw10_RunsForm.j0 k l0 a1 bt647.1 bt647.2 bt651.1 bt651.2 bt655.1 bt659.1 (decide ((bt651.1.length : Int) > 0)))) else (if (bt647.1.length : Int) > 0 then (colonnadelaw10_RunsForm.j0 k l0 a1 bt647.1 bt647.2 bt651.1 bt651.2 bt655.1 bt659.1 true) else (if bt651.2 = 0 then (colonnadelaw10_RunsForm.j0 k l0 a1 bt647.1 bt647.2 bt651.1 bt651.2 bt655.1 bt659.1 false) else (colonnadelaw10_RunsForm.j0 k l0 a1 bt647.1 bt647.2 bt651.1 bt651.2 bt655.1 bt659.1 (decide ((bt651.1.length : Int) > 0)))))) else (colonnadelaw10_RunsForm.j0 k l0 a1 bt647.1 bt647.2 bt651.1 bt651.2 bt655.1 bt659.1 true)) else (colonnadelaw10_RunsForm.j0 k l0 a1 bt647.1 bt647.2 bt651.1 bt651.2 bt655.1 bt659.1 true)))))) else (some false))
theorem colonnadelaw10_RunsForm.mono_l : ∀ k, (∀ y0 y1 y2 y3 y4 y5 y6 y7 y8, LeO (colonnadelaw10_RunsForm.j0 k y0 y1 y2 y3 y4 y5 y6 y7 y8) (colonnadelaw10_RunsForm.j0 (k + 1) y0 y1 y2 y3 y4 y5 y6 y7 y8)) ∧ (∀ y0 y1 y2 y3 y4 y5, LeO (colonnadelaw10_RunsForm.j1 k y0 y1 y2 y3 y4 y5) (colonnadelaw10_RunsForm.j1 (k + 1) y0 y1 y2 y3 y4 y5))
  | 0 => ⟨fun _ _ _ _ _ _ _ _ _ r h => by simp [colonnadelaw10_RunsForm.j0] at h, fun _ _ _ _ _ _ r h => by simp [colonnadelaw10_RunsForm.j1] at h⟩
  | k + 1 => by
    obtain ⟨ih0, ih1⟩ := colonnadelaw10_RunsForm.mono_l k
    refine ⟨?_, ?_⟩
    · intro y0 y1 y2 y3 y4 y5 y6 y7 y8
      unfold colonnadelaw10_RunsForm.j0
      repeat' first
      | (with_reducible exact ih0 _ _ _ _ _ _ _ _ _)
      | (with_reducible exact ih1 _ _ _ _ _ _)
      | (with_reducible exact colonnadelaw10_awake.mono _)
      | (with_reducible exact runs_Fold_int64.mono _ _)
      | (with_reducible exact runs_Fold_string.mono _ _)
      | (with_reducible exact runs_Ints.mono _ _ _)
      | (with_reducible exact runs_PutInts.mono _ _)
      | (with_reducible exact runs_PutTexts.mono _ _)
      | (with_reducible exact runs_Run_int64_17.mono _ _ _)
      | (with_reducible exact runs_Run_string_19.mono _ _ _)
      | (with_reducible exact runs_Texts.mono _ _ _)
      | (with_reducible exact runs_Unfold_int64.mono _ _)
      | (with_reducible exact runs_Unfold_string.mono _ _)
      | (with_reducible exact LeO.refl _)
      | (with_reducible exact LeO.none _)
      | (with_reducible refine LeO.ite ?_ ?_)
      | (with_reducible refine LeO.bind ?_ (fun _ => ?_))
      | exact ih0 _ _ _ _ _ _ _ _ _
      | exact ih1 _ _ _ _ _ _
      | exact colonnadelaw10_awake.mono _
      | exact runs_Fold_int64.mono _ _
      | exact runs_Fold_string.mono _ _
      | exact runs_Ints.mono _ _ _
      | exact runs_PutInts.mono _ _
      | exact runs_PutTexts.mono _ _
      | exact runs_Run_int64_17.mono _ _ _
      | exact runs_Run_string_19.mono _ _ _
      | exact runs_Texts.mono _ _ _
      | exact runs_Unfold_int64.mono _ _
      | exact runs_Unfold_string.mono _ _
      | exact LeO.none _
      | refine LeO.ite ?_ ?_
      | refine LeO.bind ?_ (fun _ => ?_)
    · intro y0 y1 y2 y3 y4 y5
      unfold colonnadelaw10_RunsForm.j1
      repeat' first
      | (with_reducible exact ih0 _ _ _ _ _ _ _ _ _)
      | (with_reducible exact ih1 _ _ _ _ _ _)
      | (with_reducible exact colonnadelaw10_awake.mono _)
      | (with_reducible exact runs_Fold_int64.mono _ _)
      | (with_reducible exact runs_Fold_string.mono _ _)
      | (with_reducible exact runs_Ints.mono _ _ _)
      | (with_reducible exact runs_PutInts.mono _ _)
      | (with_reducible exact runs_PutTexts.mono _ _)
      | (with_reducible exact runs_Run_int64_17.mono _ _ _)
      | (with_reducible exact runs_Run_string_19.mono _ _ _)
      | (with_reducible exact runs_Texts.mono _ _ _)
      | (with_reducible exact runs_Unfold_int64.mono _ _)
      | (with_reducible exact runs_Unfold_string.mono _ _)
      | (with_reducible exact LeO.refl _)
      | (with_reducible exact LeO.none _)
      | (with_reducible refine LeO.ite ?_ ?_)
      | (with_reducible refine LeO.bind ?_ (fun _ => ?_))
      | exact ih0 _ _ _ _ _ _ _ _ _
      | exact ih1 _ _ _ _ _ _
      | exact colonnadelaw10_awake.mono _
      | exact runs_Fold_int64.mono _ _
      | exact runs_Fold_string.mono _ _
      | exact runs_Ints.mono _ _ _
      | exact runs_PutInts.mono _ _
      | exact runs_PutTexts.mono _ _
      | exact runs_Run_int64_17.mono _ _ _
      | exact runs_Run_string_19.mono _ _ _
      | exact runs_Texts.mono _ _ _
      | exact runs_Unfold_int64.mono _ _
      | exact runs_Unfold_string.mono _ _
      | exact LeO.none _
      | refine LeO.ite ?_ ?_
      | refine LeO.bind ?_ (fun _ => ?_)
theorem colonnadelaw10_RunsForm.mono : ∀ a0 a1 k, LeO (colonnadelaw10_RunsForm.f k a0 a1) (colonnadelaw10_RunsForm.f (k + 1) a0 a1) := by
  intro a0 a1 k
  obtain ⟨ih0, ih1⟩ := colonnadelaw10_RunsForm.mono_l k
  unfold colonnadelaw10_RunsForm.f
  repeat' first
      | (with_reducible exact ih0 _ _ _ _ _ _ _ _ _)
      | (with_reducible exact ih1 _ _ _ _ _ _)
      | (with_reducible exact colonnadelaw10_awake.mono _)
      | (with_reducible exact runs_Fold_int64.mono _ _)
      | (with_reducible exact runs_Fold_string.mono _ _)
      | (with_reducible exact runs_Ints.mono _ _ _)
      | (with_reducible exact runs_PutInts.mono _ _)
      | (with_reducible exact runs_PutTexts.mono _ _)
      | (with_reducible exact runs_Run_int64_17.mono _ _ _)
      | (with_reducible exact runs_Run_string_19.mono _ _ _)
      | (with_reducible exact runs_Texts.mono _ _ _)
      | (with_reducible exact runs_Unfold_int64.mono _ _)
      | (with_reducible exact runs_Unfold_string.mono _ _)
      | (with_reducible exact LeO.refl _)
      | (with_reducible exact LeO.none _)
      | (with_reducible refine LeO.ite ?_ ?_)
      | (with_reducible refine LeO.bind ?_ (fun _ => ?_))
      | exact ih0 _ _ _ _ _ _ _ _ _
      | exact ih1 _ _ _ _ _ _
      | exact colonnadelaw10_awake.mono _
      | exact runs_Fold_int64.mono _ _
      | exact runs_Fold_string.mono _ _
      | exact runs_Ints.mono _ _ _
      | exact runs_PutInts.mono _ _
      | exact runs_PutTexts.mono _ _
      | exact runs_Run_int64_17.mono _ _ _
      | exact runs_Run_string_19.mono _ _ _
      | exact runs_Texts.mono _ _ _
      | exact runs_Unfold_int64.mono _ _
      | exact runs_Unfold_string.mono _ _
      | exact LeO.none _
      | refine LeO.ite ?_ ?_
      | refine LeO.bind ?_ (fun _ => ?_)
def colonnadelaw10_RunsForm.T9 : Bool × List (List Nat × List Nat) := (true, [([], []), ([0], [0]), ([1], [1]), ([2], [2]), ([3, 2], [2, 3]), ([2], [2]), ([4, 5, 2], [2, 4, 5]), ([6, 2, 2], [2, 6]), ([7], [7]), ([8, 7, 7], [7, 8]), ([9, 7], [7, 9]), ([7], [7]), ([11, 7], [7, 11]), ([10, 12, 7], [7, 10, 12]), ([7, 13, 2], [2, 7, 13]), ([14, 9, 2], [2, 14]), ([15], [15]), ([16, 15, 15], [15, 16]), ([15], [15]), ([17, 18, 17, 15], [15, 17, 18]), ([19, 15], [15, 19]), ([15, 20, 2], [2, 15, 20]), ([2, 21], [2, 21])])
def colonnadelaw10_RunsForm.B9 : List Nat := [0, 1, 3, 7, 15, 7, 63, 127, 255, 511, 1023, 255, 2303, 8191, 16383, 32767, 65535, 131071, 65535, 524287, 1048575, 2097151, 4194303]
theorem colonnadelaw10_RunsForm.tab9 : rtab .any (opsOf Try.f8 9) = colonnadelaw10_RunsForm.T9 := by kernel_rfl
theorem colonnadelaw10_RunsForm.bits9 : waitsOk colonnadelaw10_RunsForm.T9.2 colonnadelaw10_RunsForm.B9 = true := by kernel_rfl
def colonnadelaw10_RunsForm.T11 : Bool × List (List Nat × List Nat) := (true, [([], []), ([0], [0]), ([1], [1]), ([2], [2]), ([3, 2], [2, 3]), ([2], [2]), ([4, 5, 2], [2, 4, 5]), ([6, 2, 2], [2, 6]), ([7], [7]), ([8, 7, 7], [7, 8]), ([9, 7], [7, 9]), ([7], [7]), ([11, 7], [7, 11]), ([10, 12, 7], [7, 10, 12]), ([7, 13, 2], [2, 7, 13]), ([14, 9, 2], [2, 14]), ([15], [15]), ([16, 15, 15], [15, 16]), ([15], [15]), ([17, 18, 17, 15], [15, 17, 18]), ([15, 19, 2], [2, 15, 19]), ([2, 20], [2, 20]), ([21, 19, 0, 1, 2, 3, 4, 5, 6, 7, 8, 9, 10, 11, 12, 13, 14, 15, 16, 17, 18, 19, 20, 21], [21])])
def colonnadelaw10_RunsForm.B11 : List Nat := [0, 1, 3, 7, 15, 7, 63, 127, 255, 511, 1023, 255, 2303, 8191, 16383, 32767, 65535, 131071, 65535, 524287, 1048575, 2097151, 4194303]
theorem colonnadelaw10_RunsForm.tab11 : rtab .any (opsOf Try.f8 11) = colonnadelaw10_RunsForm.T11 := by kernel_rfl
theorem colonnadelaw10_RunsForm.bits11 : waitsOk colonnadelaw10_RunsForm.T11.2 colonnadelaw10_RunsForm.B11 = true := by kernel_rfl
theorem colonnadelaw10_RunsForm.j0_dead {k : Nat} {y0 : List Int} {y1 : Int} {y2 : List (S38)} {y3 : Int} {y4 : List (S42)} {y5 : Int} {y6 : List Int} {y7 : List ByteArray} {r : Bool} (h : colonnadelaw10_RunsForm.j0 k y0 y1 y2 y3 y4 y5 y6 y7 true = some r) : false = r := by
  cases k with
  | zero => rw [colonnadelaw10_RunsForm.j0] at h; cases h
  | succ k => rw [colonnadelaw10_RunsForm.j0, if_pos rfl] at h; exact Option.some.inj h
theorem colonnadelaw10_RunsForm.j1_dead {k : Nat} {y0 : List Int} {y1 : Int} {y2 : List (S42)} {y3 : Int} {y4 : List ByteArray} {r : Bool} (h : colonnadelaw10_RunsForm.j1 k y0 y1 y2 y3 y4 true = some r) : false = r := by
  cases k with
  | zero => rw [colonnadelaw10_RunsForm.j1] at h; cases h
  | succ k => rw [colonnadelaw10_RunsForm.j1, if_pos rfl] at h; exact Option.some.inj h
set_option maxHeartbeats 8000000 in
set_option maxRecDepth 100000 in
theorem colonnadelaw10_RunsForm.calls (k : Nat) (A0 : Option Addr) (c0 : Nat) (l0 : List Int) (a1 : Int) (r : Bool) (w : World) (hr0 : Kd.C (Kd.int .u8) w A0 l0.length l0) (hc0 : l0.length ≤ c0) (h : colonnadelaw10_RunsForm.f k l0 a1 = some r) (htrue : Aside0 (r = true)) :
    Calls Try.prog 8 #[.slice A0 l0.length c0, .int .i64 a1] w fun e w' => e = .returned (.bool r) ∧ Below w.heap.size w w' := by
  have HR0 := Aside0.mk hr0
  have HC0 := Aside0.mk hc0
  clear hr0 hc0
  have HB := Aside0.mk (Below.refl w.heap.size w)
  have H : ((colonnadelaw10_awake.f k).bind fun t646 => (if t646 = true then ((runs_Ints.f k l0 a1).bind fun bt647 => ((runs_Texts.f k l0 a1).bind fun bt651 => ((runs_Unfold_int64.f k bt647.1).bind fun bt655 => ((runs_Unfold_string.f k bt651.1).bind fun bt659 => (if bt655.2 = 0 then (if bt659.2 = 0 then (if bt647.2 = 0 then (if bt651.2 = 0 then (colonnadelaw10_RunsForm.j0 k l0 a1 bt647.1 bt647.2 bt651.1 bt651.2 bt655.1 bt659.1 false) else (colonnadelaw10_RunsForm.j0 k l0 a1 bt647.1 bt647.2 bt651.1 bt651.2 bt655.1 bt659.1 (decide ((bt651.1.length : Int) > 0)))) else (if (bt647.1.length : Int) > 0 then (colonnadelaw10_RunsForm.j0 k l0 a1 bt647.1 bt647.2 bt651.1 bt651.2 bt655.1 bt659.1 true) else (if bt651.2 = 0 then (colonnadelaw10_RunsForm.j0 k l0 a1 bt647.1 bt647.2 bt651.1 bt651.2 bt655.1 bt659.1 false) else (colonnadelaw10_RunsForm.j0 k l0 a1 bt647.1 bt647.2 bt651.1 bt651.2 bt655.1 bt659.1 (decide ((bt651.1.length : Int) > 0)))))) else (colonnadelaw10_RunsForm.j0 k l0 a1 bt647.1 bt647.2 bt651.1 bt651.2 bt655.1 bt659.1 true)) else (colonnadelaw10_RunsForm.j0 k l0 a1 bt647.1 bt647.2 bt651.1 bt651.2 bt655.1 bt659.1 true)))))) else (some false))) = some r := h
  clear h
  replace H := Option.bind_eq_some_iff.mp H
  obtain ⟨t646, A30, H⟩ := H
  replace H : (if t646 = true then ((runs_Ints.f k l0 a1).bind fun bt647 => ((runs_Texts.f k l0 a1).bind fun bt651 => ((runs_Unfold_int64.f k bt647.1).bind fun bt655 => ((runs_Unfold_string.f k bt651.1).bind fun bt659 => (if bt655.2 = 0 then (if bt659.2 = 0 then (if bt647.2 = 0 then (if bt651.2 = 0 then (colonnadelaw10_RunsForm.j0 k l0 a1 bt647.1 bt647.2 bt651.1 bt651.2 bt655.1 bt659.1 false) else (colonnadelaw10_RunsForm.j0 k l0 a1 bt647.1 bt647.2 bt651.1 bt651.2 bt655.1 bt659.1 (decide ((bt651.1.length : Int) > 0)))) else (if (bt647.1.length : Int) > 0 then (colonnadelaw10_RunsForm.j0 k l0 a1 bt647.1 bt647.2 bt651.1 bt651.2 bt655.1 bt659.1 true) else (if bt651.2 = 0 then (colonnadelaw10_RunsForm.j0 k l0 a1 bt647.1 bt647.2 bt651.1 bt651.2 bt655.1 bt659.1 false) else (colonnadelaw10_RunsForm.j0 k l0 a1 bt647.1 bt647.2 bt651.1 bt651.2 bt655.1 bt659.1 (decide ((bt651.1.length : Int) > 0)))))) else (colonnadelaw10_RunsForm.j0 k l0 a1 bt647.1 bt647.2 bt651.1 bt651.2 bt655.1 bt659.1 true)) else (colonnadelaw10_RunsForm.j0 k l0 a1 bt647.1 bt647.2 bt651.1 bt651.2 bt655.1 bt659.1 true)))))) else (some false)) = some r := H
  have A3 := Aside0.mk A30
  clear A30
  by_cases c4 : t646 = true
  · subst c4
    have H1 : ((runs_Ints.f k l0 a1).bind fun bt647 => ((runs_Texts.f k l0 a1).bind fun bt651 => ((runs_Unfold_int64.f k bt647.1).bind fun bt655 => ((runs_Unfold_string.f k bt651.1).bind fun bt659 => (if bt655.2 = 0 then (if bt659.2 = 0 then (if bt647.2 = 0 then (if bt651.2 = 0 then (colonnadelaw10_RunsForm.j0 k l0 a1 bt647.1 bt647.2 bt651.1 bt651.2 bt655.1 bt659.1 false) else (colonnadelaw10_RunsForm.j0 k l0 a1 bt647.1 bt647.2 bt651.1 bt651.2 bt655.1 bt659.1 (decide ((bt651.1.length : Int) > 0)))) else (if (bt647.1.length : Int) > 0 then (colonnadelaw10_RunsForm.j0 k l0 a1 bt647.1 bt647.2 bt651.1 bt651.2 bt655.1 bt659.1 true) else (if bt651.2 = 0 then (colonnadelaw10_RunsForm.j0 k l0 a1 bt647.1 bt647.2 bt651.1 bt651.2 bt655.1 bt659.1 false) else (colonnadelaw10_RunsForm.j0 k l0 a1 bt647.1 bt647.2 bt651.1 bt651.2 bt655.1 bt659.1 (decide ((bt651.1.length : Int) > 0)))))) else (colonnadelaw10_RunsForm.j0 k l0 a1 bt647.1 bt647.2 bt651.1 bt651.2 bt655.1 bt659.1 true)) else (colonnadelaw10_RunsForm.j0 k l0 a1 bt647.1 bt647.2 bt651.1 bt651.2 bt655.1 bt659.1 true)))))) = some r := by rw [if_pos rfl] at H; exact H
    clear H
    have H := H1
    clear H1
    replace H := Option.bind_eq_some_iff.mp H
    obtain ⟨⟨t647, t648⟩, A50, H⟩ := H
    replace H : ((runs_Texts.f k l0 a1).bind fun bt651 => ((runs_Unfold_int64.f k t647).bind fun bt655 => ((runs_Unfold_string.f k bt651.1).bind fun bt659 => (if bt655.2 = 0 then (if bt659.2 = 0 then (if t648 = 0 then (if bt651.2 = 0 then (colonnadelaw10_RunsForm.j0 k l0 a1 t647 t648 bt651.1 bt651.2 bt655.1 bt659.1 false) else (colonnadelaw10_RunsForm.j0 k l0 a1 t647 t648 bt651.1 bt651.2 bt655.1 bt659.1 (decide ((bt651.1.length : Int) > 0)))) else (if (t647.length : Int) > 0 then (colonnadelaw10_RunsForm.j0 k l0 a1 t647 t648 bt651.1 bt651.2 bt655.1 bt659.1 true) else (if bt651.2 = 0 then (colonnadelaw10_RunsForm.j0 k l0 a1 t647 t648 bt651.1 bt651.2 bt655.1 bt659.1 false) else (colonnadelaw10_RunsForm.j0 k l0 a1 t647 t648 bt651.1 bt651.2 bt655.1 bt659.1 (decide ((bt651.1.length : Int) > 0)))))) else (colonnadelaw10_RunsForm.j0 k l0 a1 t647 t648 bt651.1 bt651.2 bt655.1 bt659.1 true)) else (colonnadelaw10_RunsForm.j0 k l0 a1 t647 t648 bt651.1 bt651.2 bt655.1 bt659.1 true))))) = some r := H
    have A5 := Aside0.mk A50
    clear A50
    replace H := Option.bind_eq_some_iff.mp H
    obtain ⟨⟨t651, t652⟩, A60, H⟩ := H
    replace H : ((runs_Unfold_int64.f k t647).bind fun bt655 => ((runs_Unfold_string.f k t651).bind fun bt659 => (if bt655.2 = 0 then (if bt659.2 = 0 then (if t648 = 0 then (if t652 = 0 then (colonnadelaw10_RunsForm.j0 k l0 a1 t647 t648 t651 t652 bt655.1 bt659.1 false) else (colonnadelaw10_RunsForm.j0 k l0 a1 t647 t648 t651 t652 bt655.1 bt659.1 (decide ((t651.length : Int) > 0)))) else (if (t647.length : Int) > 0 then (colonnadelaw10_RunsForm.j0 k l0 a1 t647 t648 t651 t652 bt655.1 bt659.1 true) else (if t652 = 0 then (colonnadelaw10_RunsForm.j0 k l0 a1 t647 t648 t651 t652 bt655.1 bt659.1 false) else (colonnadelaw10_RunsForm.j0 k l0 a1 t647 t648 t651 t652 bt655.1 bt659.1 (decide ((t651.length : Int) > 0)))))) else (colonnadelaw10_RunsForm.j0 k l0 a1 t647 t648 t651 t652 bt655.1 bt659.1 true)) else (colonnadelaw10_RunsForm.j0 k l0 a1 t647 t648 t651 t652 bt655.1 bt659.1 true)))) = some r := H
    have A6 := Aside0.mk A60
    clear A60
    replace H := Option.bind_eq_some_iff.mp H
    obtain ⟨⟨t655, t656⟩, A70, H⟩ := H
    replace H : ((runs_Unfold_string.f k t651).bind fun bt659 => (if t656 = 0 then (if bt659.2 = 0 then (if t648 = 0 then (if t652 = 0 then (colonnadelaw10_RunsForm.j0 k l0 a1 t647 t648 t651 t652 t655 bt659.1 false) else (colonnadelaw10_RunsForm.j0 k l0 a1 t647 t648 t651 t652 t655 bt659.1 (decide ((t651.length : Int) > 0)))) else (if (t647.length : Int) > 0 then (colonnadelaw10_RunsForm.j0 k l0 a1 t647 t648 t651 t652 t655 bt659.1 true) else (if t652 = 0 then (colonnadelaw10_RunsForm.j0 k l0 a1 t647 t648 t651 t652 t655 bt659.1 false) else (colonnadelaw10_RunsForm.j0 k l0 a1 t647 t648 t651 t652 t655 bt659.1 (decide ((t651.length : Int) > 0)))))) else (colonnadelaw10_RunsForm.j0 k l0 a1 t647 t648 t651 t652 t655 bt659.1 true)) else (colonnadelaw10_RunsForm.j0 k l0 a1 t647 t648 t651 t652 t655 bt659.1 true))) = some r := H
    have A7 := Aside0.mk A70
    clear A70
    replace H := Option.bind_eq_some_iff.mp H
    obtain ⟨⟨t659, t660⟩, A80, H⟩ := H
    replace H : (if t656 = 0 then (if t660 = 0 then (if t648 = 0 then (if t652 = 0 then (colonnadelaw10_RunsForm.j0 k l0 a1 t647 t648 t651 t652 t655 t659 false) else (colonnadelaw10_RunsForm.j0 k l0 a1 t647 t648 t651 t652 t655 t659 (decide ((t651.length : Int) > 0)))) else (if (t647.length : Int) > 0 then (colonnadelaw10_RunsForm.j0 k l0 a1 t647 t648 t651 t652 t655 t659 true) else (if t652 = 0 then (colonnadelaw10_RunsForm.j0 k l0 a1 t647 t648 t651 t652 t655 t659 false) else (colonnadelaw10_RunsForm.j0 k l0 a1 t647 t648 t651 t652 t655 t659 (decide ((t651.length : Int) > 0)))))) else (colonnadelaw10_RunsForm.j0 k l0 a1 t647 t648 t651 t652 t655 t659 true)) else (colonnadelaw10_RunsForm.j0 k l0 a1 t647 t648 t651 t652 t655 t659 true)) = some r := H
    have A8 := Aside0.mk A80
    clear A80
    have HC9 := Aside0.mk H
    clear H
    go_enter Try.func8, Try.ntmps8
    go_upto_region 7 with (first | ((with_reducible refine gate_callee (f := 30) rfl ?_); refine goesL_ (some 13) rfl rfl Try.func30 (by kernel_rfl) rfl #[] rfl (by (try simp only [List.map_toArray, List.map_cons, List.map_nil]); first | done | rfl | (simp only [List.length_drop, List.length_take]; rfl)) ?_; (with_reducible refine (colonnadelaw10_awake.calls k  true _ A3.out).mono ?_); rintro e w10 ⟨rfl, hb⟩; refine ⟨_, rfl, ?_⟩; have n0_ := Aside0.mk (below_step (by repeat (first | (with_reducible first | exact HB.out | apply below_alloc | apply pw_below_drewN | apply below_drew1) | exact HB.out)) hb); clear HB; have HB := n0_; clear n0_; (try clear hb); (try clear hb2); (try clear hk); (try clear hi)) | ((with_reducible refine gate_callee (f := 27) rfl ?_); refine goesL_ (some 18) rfl rfl Try.func27 (by kernel_rfl) rfl #[.slice A0 l0.length c0, .int .i64 a1] rfl (by (try simp only [List.map_toArray, List.map_cons, List.map_nil]); first | done | rfl | (simp only [List.length_drop, List.length_take]; rfl)) ?_; (with_reducible refine (runs_Ints.calls k _ _ l0 a1 t647 t648 _ ?side1 ?side2 A5.out).mono ?_); (case side1 => repeat (first | exact (Kd.C_below HR0.out HB.out) | (with_reducible refine Kd.C_alloc ?_ _) | (with_reducible refine Kd.C_drewN ?_ _) | (with_reducible refine Kd.C_drew ?_))); (case side2 => exact HC0.out); rintro e w11 ⟨v649, rfl, ho0, hb⟩; refine ⟨_, rfl, ?_⟩; have n0_ := Aside0.mk (Kd.R_lower ho0 (below_size (by repeat (first | (with_reducible first | exact HB.out | apply below_alloc | apply pw_below_drewN | apply below_drew1) | exact HB.out)))); have n1_ := Aside0.mk (below_step (by repeat (first | (with_reducible first | exact HB.out | apply below_alloc | apply pw_below_drewN | apply below_drew1) | exact HB.out)) hb); clear HB; have HO650 := n0_; have HB := n1_; clear n0_ n1_; (try clear hb); (try clear hb2); (try clear hk); (try clear hi); (try clear ho0)) | ((with_reducible refine gate_callee (f := 28) rfl ?_); refine goesL_ (some 24) rfl rfl Try.func28 (by kernel_rfl) rfl #[.slice A0 l0.length c0, .int .i64 a1] rfl (by (try simp only [List.map_toArray, List.map_cons, List.map_nil]); first | done | rfl | (simp only [List.length_drop, List.length_take]; rfl)) ?_; (with_reducible refine (runs_Texts.calls k _ _ l0 a1 t651 t652 _ ?side1 ?side2 A6.out).mono ?_); (case side1 => repeat (first | exact (Kd.C_below HR0.out HB.out) | (with_reducible refine Kd.C_alloc ?_ _) | (with_reducible refine Kd.C_drewN ?_ _) | (with_reducible refine Kd.C_drew ?_))); (case side2 => exact HC0.out); rintro e w12 ⟨v653, rfl, ho0, hb⟩; refine ⟨_, rfl, ?_⟩; have n0_ := Aside0.mk (Kd.R_below (by (with_reducible repeat (first | apply Kd.R_alloc | apply Kd.R_drewN | apply Kd.R_drew)); exact HO650.out) hb); have n1_ := Aside0.mk (Kd.R_lower ho0 (below_size (by repeat (first | (with_reducible first | exact HB.out | apply below_alloc | apply pw_below_drewN | apply below_drew1) | exact HB.out)))); have n2_ := Aside0.mk (below_step (by repeat (first | (with_reducible first | exact HB.out | apply below_alloc | apply pw_below_drewN | apply below_drew1) | exact HB.out)) hb); clear HO650; clear HB; have HO650 := n0_; have HO654 := n1_; have HB := n2_; clear n0_ n1_ n2_; (try clear hb); (try clear hb2); (try clear hk); (try clear hi); (try clear ho0); obtain ⟨Ao13, co13, eo13⟩ := Kd.R_slice HO650.out; subst eo13) | ((with_reducible refine gate_callee (f := 35) rfl ?_); refine goesL_ (some 29) rfl rfl Try.func35 (by kernel_rfl) rfl #[.slice Ao13 t647.length co13] rfl (by (try simp only [List.map_toArray, List.map_cons, List.map_nil]); first | done | rfl | (simp only [List.length_drop, List.length_take]; rfl)) ?_; (with_reducible refine (runs_Unfold_int64.calls k _ _ t647 t655 t656 _ ?side1 ?side2 A7.out).mono ?_); (case side1 => repeat (first | exact (Kd.R_reads' HO650.out).2.2 | (with_reducible refine Kd.C_alloc ?_ _) | (with_reducible refine Kd.C_drewN ?_ _) | (with_reducible refine Kd.C_drew ?_))); (case side2 => exact (Kd.R_reads' HO650.out).2.1); rintro e w14 ⟨v657, rfl, ho0, hb⟩; refine ⟨_, rfl, ?_⟩; have n0_ := Aside0.mk (Kd.R_below (by (with_reducible repeat (first | apply Kd.R_alloc | apply Kd.R_drewN | apply Kd.R_drew)); exact HO650.out) hb); have n1_ := Aside0.mk (Kd.R_below (by (with_reducible repeat (first | apply Kd.R_alloc | apply Kd.R_drewN | apply Kd.R_drew)); exact HO654.out) hb); have n2_ := Aside0.mk (Kd.R_lower ho0 (below_size (by repeat (first | (with_reducible first | exact HB.out | apply below_alloc | apply pw_below_drewN | apply below_drew1) | exact HB.out)))); have n3_ := Aside0.mk (below_step (by repeat (first | (with_reducible first | exact HB.out | apply below_alloc | apply pw_below_drewN | apply below_drew1) | exact HB.out)) hb); clear HO650; clear HO654; clear HB; have HO650 := n0_; have HO654 := n1_; have HO658 := n2_; have HB := n3_; clear n0_ n1_ n2_ n3_; (try clear hb); (try clear hb2); (try clear hk); (try clear hi); (try clear ho0); obtain ⟨Ao15, co15, eo15⟩ := Kd.R_slice HO654.out; subst eo15) | ((with_reducible refine gate_callee (f := 31) rfl ?_); refine goesL_ (some 34) rfl rfl Try.func31 (by kernel_rfl) rfl #[.slice Ao15 t651.length co15] rfl (by (try simp only [List.map_toArray, List.map_cons, List.map_nil]); first | done | rfl | (simp only [List.length_drop, List.length_take]; rfl)) ?_; (with_reducible refine (runs_Unfold_string.calls k _ _ t651 t659 t660 _ ?side1 ?side2 A8.out).mono ?_); (case side1 => repeat (first | exact (Kd.R_reads' HO654.out).2.2 | (with_reducible refine Kd.C_alloc ?_ _) | (with_reducible refine Kd.C_drewN ?_ _) | (with_reducible refine Kd.C_drew ?_))); (case side2 => exact (Kd.R_reads' HO654.out).2.1); rintro e w16 ⟨v661, rfl, ho0, hb⟩; refine ⟨_, rfl, ?_⟩; have n0_ := Aside0.mk (Kd.R_below (by (with_reducible repeat (first | apply Kd.R_alloc | apply Kd.R_drewN | apply Kd.R_drew)); exact HO650.out) hb); have n1_ := Aside0.mk (Kd.R_below (by (with_reducible repeat (first | apply Kd.R_alloc | apply Kd.R_drewN | apply Kd.R_drew)); exact HO654.out) hb); have n2_ := Aside0.mk (Kd.R_below (by (with_reducible repeat (first | apply Kd.R_alloc | apply Kd.R_drewN | apply Kd.R_drew)); exact HO658.out) hb); have n3_ := Aside0.mk (Kd.R_lower ho0 (below_size (by repeat (first | (with_reducible first | exact HB.out | apply below_alloc | apply pw_below_drewN | apply below_drew1) | exact HB.out)))); have n4_ := Aside0.mk (below_step (by repeat (first | (with_reducible first | exact HB.out | apply below_alloc | apply pw_below_drewN | apply below_drew1) | exact HB.out)) hb); clear HO650; clear HO654; clear HO658; clear HB; have HO650 := n0_; have HO654 := n1_; have HO658 := n2_; have HO662 := n3_; have HB := n4_; clear n0_ n1_ n2_ n3_ n4_; (try clear hb); (try clear hb2); (try clear hk); (try clear hi); (try clear ho0)))
    (try simp only [Act.put, List.setIfInBounds_toArray, List.set_cons_zero, List.set_cons_succ])
    go_cut [60] (fun v60 wc => ∃ (kq : Nat) (x60_8 : Bool), v60 = .bool x60_8 ∧ Aside0 (colonnadelaw10_RunsForm.j0 kq l0 a1 t647 t648 t651 t652 t655 t659 x60_8 = some r) ∧ Aside0 (kq ≤ k) ∧ Aside0 (Kd.R k38 38 wc w.heap.size (fun _ => True) (.slice Ao13 t647.length co13) t647) ∧ Aside0 (Kd.R k42 42 wc w.heap.size (fun _ => True) (.slice Ao15 t651.length co15) t651) ∧ Aside0 (Kd.R (Kd.int .i64) 2 wc w.heap.size (fun _ => True) v657 t655) ∧ Aside0 (Kd.R Kd.string 9 wc w.heap.size (fun _ => True) v661 t659) ∧ Aside0 (Below w.heap.size w wc))
    case first =>
      have H := HC9.out
      clear HC9
      by_cases c17 : t656 = 0
      · rw [if_pos c17] at H
        have c17b0 : (t656 == 0) = true := beq_iff_eq.mpr c17
        have c17b1 : (t656 != 0) = false := bne_eq_false_iff_eq.mpr c17
        clear c17
        (first | rw [c17b0] | (simp only [i64_w, i32_w]; rw [c17b0]) | skip)
        by_cases c18 : t660 = 0
        · rw [if_pos c18] at H
          have c18b0 : (t660 == 0) = true := beq_iff_eq.mpr c18
          have c18b1 : (t660 != 0) = false := bne_eq_false_iff_eq.mpr c18
          clear c18
          by_cases c19 : t648 = 0
          · rw [if_pos c19] at H
            have c19b0 : (t648 == 0) = true := beq_iff_eq.mpr c19
            have c19b1 : (t648 != 0) = false := bne_eq_false_iff_eq.mpr c19
            clear c19
            by_cases c20 : t652 = 0
            · rw [if_pos c20] at H
              have c20b0 : (t652 == 0) = true := beq_iff_eq.mpr c20
              have c20b1 : (t652 != 0) = false := bne_eq_false_iff_eq.mpr c20
              clear c20
              have H' := Aside0.mk H
              clear H
              go_wp2
              go_meet
              case rel => exact ⟨_, (false), (by first | rfl | (simp; done) | (simp [*]; done)), H', ⟨by first | omega | exact Nat.le_refl _⟩, ⟨by (with_reducible repeat (first | apply Kd.R_alloc | apply Kd.R_drewN | apply Kd.R_drew)); exact HO650.out⟩, ⟨by (with_reducible repeat (first | apply Kd.R_alloc | apply Kd.R_drewN | apply Kd.R_drew)); exact HO654.out⟩, ⟨by (with_reducible repeat (first | apply Kd.R_alloc | apply Kd.R_drewN | apply Kd.R_drew)); exact HO658.out⟩, ⟨by (with_reducible repeat (first | apply Kd.R_alloc | apply Kd.R_drewN | apply Kd.R_drew)); exact HO662.out⟩, ⟨by repeat (first | (with_reducible first | exact HB.out | apply below_alloc | apply pw_below_drewN | apply below_drew1) | exact HB.out)⟩⟩
            · rw [if_neg c20] at H
              have c20b0 : (t652 == 0) = false := beq_eq_false_iff_ne.mpr c20
              have c20b1 : (t652 != 0) = true := bne_iff_ne.mpr c20
              have H' := Aside0.mk H
              clear H
              go_wp2
              go_meet
              case rel => exact ⟨_, (decide ((t651.length : Int) > 0)), (by first | rfl | (simp; done) | (simp [*]; done)), H', ⟨by first | omega | exact Nat.le_refl _⟩, ⟨by (with_reducible repeat (first | apply Kd.R_alloc | apply Kd.R_drewN | apply Kd.R_drew)); exact HO650.out⟩, ⟨by (with_reducible repeat (first | apply Kd.R_alloc | apply Kd.R_drewN | apply Kd.R_drew)); exact HO654.out⟩, ⟨by (with_reducible repeat (first | apply Kd.R_alloc | apply Kd.R_drewN | apply Kd.R_drew)); exact HO658.out⟩, ⟨by (with_reducible repeat (first | apply Kd.R_alloc | apply Kd.R_drewN | apply Kd.R_drew)); exact HO662.out⟩, ⟨by repeat (first | (with_reducible first | exact HB.out | apply below_alloc | apply pw_below_drewN | apply below_drew1) | exact HB.out)⟩⟩
          · rw [if_neg c19] at H
            have c19b0 : (t648 == 0) = false := beq_eq_false_iff_ne.mpr c19
            have c19b1 : (t648 != 0) = true := bne_iff_ne.mpr c19
            by_cases c21 : (t647.length : Int) > 0
            · rw [if_pos c21] at H
              exact absurd ((colonnadelaw10_RunsForm.j0_dead H).trans htrue.out) (by decide)
            · rw [if_neg c21] at H
              have c21b0 : decide (0 < (t647.length : Int)) = false := decide_eq_false c21
              have c21b1 : decide (0 < t647.length) = false := decide_eq_false (by omega)
              clear c21
              by_cases c22 : t652 = 0
              · rw [if_pos c22] at H
                have c22b0 : (t652 == 0) = true := beq_iff_eq.mpr c22
                have c22b1 : (t652 != 0) = false := bne_eq_false_iff_eq.mpr c22
                clear c22
                have H' := Aside0.mk H
                clear H
                go_wp2
                go_meet
                case rel => exact ⟨_, (false), (by first | rfl | (simp; done) | (simp [*]; done)), H', ⟨by first | omega | exact Nat.le_refl _⟩, ⟨by (with_reducible repeat (first | apply Kd.R_alloc | apply Kd.R_drewN | apply Kd.R_drew)); exact HO650.out⟩, ⟨by (with_reducible repeat (first | apply Kd.R_alloc | apply Kd.R_drewN | apply Kd.R_drew)); exact HO654.out⟩, ⟨by (with_reducible repeat (first | apply Kd.R_alloc | apply Kd.R_drewN | apply Kd.R_drew)); exact HO658.out⟩, ⟨by (with_reducible repeat (first | apply Kd.R_alloc | apply Kd.R_drewN | apply Kd.R_drew)); exact HO662.out⟩, ⟨by repeat (first | (with_reducible first | exact HB.out | apply below_alloc | apply pw_below_drewN | apply below_drew1) | exact HB.out)⟩⟩
              · rw [if_neg c22] at H
                have c22b0 : (t652 == 0) = false := beq_eq_false_iff_ne.mpr c22
                have c22b1 : (t652 != 0) = true := bne_iff_ne.mpr c22
                have H' := Aside0.mk H
                clear H
                go_wp2
                go_meet
                case rel => exact ⟨_, (decide ((t651.length : Int) > 0)), (by first | rfl | (simp; done) | (simp [*]; done)), H', ⟨by first | omega | exact Nat.le_refl _⟩, ⟨by (with_reducible repeat (first | apply Kd.R_alloc | apply Kd.R_drewN | apply Kd.R_drew)); exact HO650.out⟩, ⟨by (with_reducible repeat (first | apply Kd.R_alloc | apply Kd.R_drewN | apply Kd.R_drew)); exact HO654.out⟩, ⟨by (with_reducible repeat (first | apply Kd.R_alloc | apply Kd.R_drewN | apply Kd.R_drew)); exact HO658.out⟩, ⟨by (with_reducible repeat (first | apply Kd.R_alloc | apply Kd.R_drewN | apply Kd.R_drew)); exact HO662.out⟩, ⟨by repeat (first | (with_reducible first | exact HB.out | apply below_alloc | apply pw_below_drewN | apply below_drew1) | exact HB.out)⟩⟩
        · rw [if_neg c18] at H
          exact absurd ((colonnadelaw10_RunsForm.j0_dead H).trans htrue.out) (by decide)
      · rw [if_neg c17] at H
        exact absurd ((colonnadelaw10_RunsForm.j0_dead H).trans htrue.out) (by decide)
    case rest =>
      clear HC9
      try clear c1
      try clear c2
      try clear p2
      try clear c3
      try clear c4
      try clear c8
      try clear c17
      try clear c17b0
      try clear c17b1
      try clear c18
      try clear c18b0
      try clear c18b1
      try clear c19
      try clear c19b0
      try clear c19b1
      try clear c20
      try clear c20b0
      try clear c20b1
      try clear c21
      try clear c21b0
      try clear c21b1
      try clear c22
      try clear c22b0
      try clear c22b1
      obtain ⟨kq, x60_8, rfl, HA, HJ8, HO_5, HO_7, HO_9, HO_11, HB⟩ := hcut
      cases kq with
      | zero => exact absurd HA.out (by simp [colonnadelaw10_RunsForm.j0])
      | succ kj8 =>
        have H := HA.out
        clear HA
        simp only [colonnadelaw10_RunsForm.j0] at H
        by_cases c23 : x60_8 = true
        · subst c23
          have H1 : (some false) = some r := by rw [if_pos rfl] at H; exact H
          exact absurd ((Option.some.inj H1).trans htrue.out) (by decide)
        · replace c23 := Bool.eq_false_iff.mpr c23
          subst c23
          have H1 : (if t648 = 0 then (if (t655.length : Int) = a1 then ((runs_PutInts.f kj8 t655).bind fun t663 => (if (strOfNums t663).toList = (strOfNums l0).toList then ((runs_Fold_int64.f kj8 t655).bind fun t666 => ((runs_Run_int64_17.f kj8 t666 t647).bind fun t669 => (colonnadelaw10_RunsForm.j1 kj8 l0 a1 t651 t652 t659 (!t669)))) else (colonnadelaw10_RunsForm.j1 kj8 l0 a1 t651 t652 t659 true))) else (colonnadelaw10_RunsForm.j1 kj8 l0 a1 t651 t652 t659 true)) else (colonnadelaw10_RunsForm.j1 kj8 l0 a1 t651 t652 t659 false)) = some r := by rw [if_neg (show ¬ (false = true) by decide)] at H; exact H
          clear H
          have H := H1
          clear H1
          have HC24 := Aside0.mk H
          clear H
          go_upto_region 9 with (fail)
          go_cut [83] (fun v83 wc => ∃ (kq : Nat) (x83_23 : Bool), v83 = .bool x83_23 ∧ Aside0 (colonnadelaw10_RunsForm.j1 kq l0 a1 t651 t652 t659 x83_23 = some r) ∧ Aside0 (kq ≤ kj8) ∧ Aside0 (Kd.R k42 42 wc w.heap.size (fun _ => True) (.slice Ao15 t651.length co15) t651) ∧ Aside0 (Kd.R Kd.string 9 wc w.heap.size (fun _ => True) v661 t659) ∧ Aside0 (Below w.heap.size w wc))
          case first =>
            have H := HC24.out
            clear HC24
            by_cases c25 : t648 = 0
            · rw [if_pos c25] at H
              have c25b0 : (t648 == 0) = true := beq_iff_eq.mpr c25
              have c25b1 : (t648 != 0) = false := bne_eq_false_iff_eq.mpr c25
              clear c25
              (first | rw [c25b0] | (simp only [i64_w, i32_w]; rw [c25b0]) | skip)
              by_cases c26 : (t655.length : Int) = a1
              · rw [if_pos c26] at H
                have c26b0 : ((t655.length : Int) == a1) = true := beq_iff_eq.mpr c26
                have c26b1 : ((t655.length : Int) != a1) = false := bne_eq_false_iff_eq.mpr c26
                clear c26
                replace H := Option.bind_eq_some_iff.mp H
                obtain ⟨t663, A270, H⟩ := H
                replace H : (if (strOfNums t663).toList = (strOfNums l0).toList then ((runs_Fold_int64.f kj8 t655).bind fun t666 => ((runs_Run_int64_17.f kj8 t666 t647).bind fun t669 => (colonnadelaw10_RunsForm.j1 kj8 l0 a1 t651 t652 t659 (!t669)))) else (colonnadelaw10_RunsForm.j1 kj8 l0 a1 t651 t652 t659 true)) = some r := H
                have A27 := Aside0.mk A270
                clear A270
                by_cases c28 : (strOfNums t663).toList = (strOfNums l0).toList
                · rw [if_pos c28] at H
                  have c28b0 : ((strOfNums t663).toList == (strOfNums l0).toList) = true := beq_iff_eq.mpr c28
                  have c28b1 : ((strOfNums t663).toList != (strOfNums l0).toList) = false := bne_eq_false_iff_eq.mpr c28
                  clear c28
                  replace H := Option.bind_eq_some_iff.mp H
                  obtain ⟨t666, A290, H⟩ := H
                  replace H : ((runs_Run_int64_17.f kj8 t666 t647).bind fun t669 => (colonnadelaw10_RunsForm.j1 kj8 l0 a1 t651 t652 t659 (!t669))) = some r := H
                  have A29 := Aside0.mk A290
                  clear A290
                  replace H := Option.bind_eq_some_iff.mp H
                  obtain ⟨t669, A300, H⟩ := H
                  replace H : (colonnadelaw10_RunsForm.j1 kj8 l0 a1 t651 t652 t659 (!t669)) = some r := H
                  have A30 := Aside0.mk A300
                  clear A300
                  have H' := Aside0.mk H
                  clear H
                  obtain ⟨Ao31, co31, eo31⟩ := Kd.R_slice HO_9.out
                  subst eo31
                  try go_wp2
                  have n0_ := Aside0.mk (Kd.R_drew HO_5.out)
                  have n1_ := Aside0.mk (Kd.R_drew HO_7.out)
                  have n2_ := Aside0.mk (Kd.R_drew HO_9.out)
                  have n3_ := Aside0.mk (Kd.R_drew HO_11.out)
                  have n4_ := Aside0.mk (below_drew1 HB.out)
                  clear HO_5
                  clear HO_7
                  clear HO_9
                  clear HO_11
                  clear HB
                  have HO_5 := n0_
                  have HO_7 := n1_
                  have HO_9 := n2_
                  have HO_11 := n3_
                  have HB := n4_
                  clear n0_ n1_ n2_ n3_ n4_
                  refine start_ (n := 23) (S := fun w' => ((convert 34 9 (.slice A0 l0.length c0)).run Try.prog w' = .ok (.string (strOfNums l0)) w') ∧ True) (ds := []) #[false, false, false, false, false, false, false, false, false, false, false, false, false, false, false, false, false, false, false, false, false, false, false] (by kernel_rfl) rfl rfl ⟨Kd.C_string (P := Try.prog) (A := A0) (c := c0) (dst := 9) Try.underlying34 Try.underlying5 Try.underlying9 (Kd.C_below HR0.out (by repeat (first | (with_reducible first | exact HB.out | apply below_alloc | apply pw_below_drewN | apply below_drew1) | exact HB.out))), trivial⟩ (fun hHeld => ?_); refine with_tabW colonnadelaw10_RunsForm.tab9 colonnadelaw10_RunsForm.bits9 (fun HT_ HW_ => ?_)
                  generalize wc.drew = w32 at HO_5 HO_7 HO_9 HO_11 HB hHeld ⊢
                  refine pureP #[true, false, false, false, false, false, false, false, false, false, false, false, false, false, false, false, false, false, false, false, false, false, false] (any_of HT_.out (by kernel_rfl)) (i := 0) (N := some 61) ?_
                  refine pureP #[true, true, false, false, false, false, false, false, false, false, false, false, false, false, false, false, false, false, false, false, false, false, false] (any_of HT_.out (by kernel_rfl)) (i := 1) (N := some 62) ?_
                  refine pureP #[true, true, true, false, false, false, false, false, false, false, false, false, false, false, false, false, false, false, false, false, false, false, false] (any_of HT_.out (by kernel_rfl)) (i := 2) (N := some 63) ?_
                  refine pureP #[true, true, true, true, false, false, false, false, false, false, false, false, false, false, false, false, false, false, false, false, false, false, false] (any_of HT_.out (by kernel_rfl)) (i := 3) (N := some 64) ?_
                  refine pureP #[true, true, true, true, true, false, false, false, false, false, false, false, false, false, false, false, false, false, false, false, false, false, false] (any_of HT_.out (by kernel_rfl)) (i := 4) (N := some 65) ?_
                  refine pureP #[true, true, true, true, true, true, false, false, false, false, false, false, false, false, false, false, false, false, false, false, false, false, false] (any_of HT_.out (by kernel_rfl)) (i := 5) (N := some 66) ?_
                  refine pureP #[true, true, true, true, true, true, true, false, false, false, false, false, false, false, false, false, false, false, false, false, false, false, false] (any_of HT_.out (by kernel_rfl)) (i := 6) (N := some 67) ?_
                  refine pureP #[true, true, true, true, true, true, true, true, false, false, false, false, false, false, false, false, false, false, false, false, false, false, false] (any_of HT_.out (by kernel_rfl)) (i := 7) (N := some 68) ?_
                  refine pureP #[true, true, true, true, true, true, true, true, true, false, false, false, false, false, false, false, false, false, false, false, false, false, false] (any_of HT_.out (by kernel_rfl)) (i := 8) (N := some 69) ?_
                  refine pureP #[true, true, true, true, true, true, true, true, true, false, false, true, false, false, false, false, false, false, false, false, false, false, false] (any_of HT_.out (by kernel_rfl)) (i := 11) (N := some 72) ?_
                  refine take_ (i := 12) (N := some 73) (v := ?_) (a' := ?_) #[true, true, true, true, true, true, true, true, true, false, false, true, true, false, false, false, false, false, false, false, false, false, false] rfl rfl (take_ofW HT_.out HW_.out (by kernel_rfl)) (fun _ _ _ h => h) (Or.inl ⟨by rfl, ?_⟩) hHeld ?_ ?_
                  rotate_left
                  · intro w' hS_; (repeat obtain ⟨_, hS_⟩ := hS_)
                    go_simp
                    with_reducible rfl
                  rotate_left
                  · simp only [Act.put, List.setIfInBounds_toArray, List.set_cons_zero, List.set_cons_succ, i64_w, i32_w]
                    rfl
                  refine one_ (i := 9) (N := some 70) #[true, true, true, true, true, true, true, true, true, true, false, true, true, false, false, false, false, false, false, false, false, false, false] rfl rfl (one_of HT_.out (by kernel_rfl)) (by decide) (fun K hK => ?_)
                  refine goes_ Try.func23 (by kernel_rfl) rfl #[.slice Ao31 t655.length co31] (by rfl) rfl rfl (by (try simp only [List.map_toArray, List.map_cons, List.map_nil]); first | done | rfl | (simp only [List.length_drop, List.length_take]; rfl)) ?_
                  with_reducible refine (runs_PutInts.calls kj8 _ _ t655 t663 _ ?side1 ?side2 A27.out).mono ?_
                  (case side1 => repeat (first | exact (Kd.R_reads' HO_9.out).2.2 | (with_reducible refine Kd.C_alloc ?_ _) | (with_reducible refine Kd.C_drewN ?_ _) | (with_reducible refine Kd.C_drew ?_)))
                  (case side2 => exact (Kd.R_reads' HO_9.out).2.1)
                  rintro e w33 ⟨v664, rfl, ho0, hb⟩
                  refine ⟨_, rfl, ?_⟩
                  have n0_ := Aside0.mk (Kd.R_below (by (with_reducible repeat (first | apply Kd.R_alloc | apply Kd.R_drewN | apply Kd.R_drew)); exact HO_5.out) hb)
                  have n1_ := Aside0.mk (Kd.R_below (by (with_reducible repeat (first | apply Kd.R_alloc | apply Kd.R_drewN | apply Kd.R_drew)); exact HO_7.out) hb)
                  have n2_ := Aside0.mk (Kd.R_below (by (with_reducible repeat (first | apply Kd.R_alloc | apply Kd.R_drewN | apply Kd.R_drew)); exact HO_9.out) hb)
                  have n3_ := Aside0.mk (Kd.R_below (by (with_reducible repeat (first | apply Kd.R_alloc | apply Kd.R_drewN | apply Kd.R_drew)); exact HO_11.out) hb)
                  have n4_ := Aside0.mk (Kd.R_lower ho0 (below_size (by repeat (first | (with_reducible first | exact HB.out | apply below_alloc | apply pw_below_drewN | apply below_drew1) | exact HB.out))))
                  have n5_ := Aside0.mk (below_step (by repeat (first | (with_reducible first | exact HB.out | apply below_alloc | apply pw_below_drewN | apply below_drew1) | exact HB.out)) hb)
                  clear HO_5
                  clear HO_7
                  clear HO_9
                  clear HO_11
                  clear HB
                  have HO_5 := n0_
                  have HO_7 := n1_
                  have HO_9 := n2_
                  have HO_11 := n3_
                  have HO665 := n4_
                  have HB := n5_
                  clear n0_ n1_ n2_ n3_ n4_ n5_
                  (try clear hb)
                  (try clear hb2)
                  (try clear hk)
                  (try clear hi)
                  (try clear ho0)
                  have hcv35 := Kd.C_string (P := Try.prog) (A := A0) (c := c0) Try.underlying34 Try.underlying5 Try.underlying9 (Kd.C_below HR0.out HB.out)
                  refine hK.out _ _ ⟨Kd.C_string (P := Try.prog) (A := A0) (c := c0) (dst := 9) Try.underlying34 Try.underlying5 Try.underlying9 (Kd.C_below HR0.out (by repeat (first | (with_reducible first | exact HB.out | apply below_alloc | apply pw_below_drewN | apply below_drew1) | exact HB.out))), trivial⟩ (fun hHeld => ?_)
                  clear hK K
                  refine norm_ (a' := ?_) ?_ ?_
                  rotate_left
                  · show Act.put _ (some 70) _ = _
                    simp only [Act.put, List.setIfInBounds_toArray, List.set_cons_zero, List.set_cons_succ, i64_w, i32_w]
                    rfl
                  refine one_ (i := 10) (N := some 71) #[true, true, true, true, true, true, true, true, true, true, true, true, true, false, false, false, false, false, false, false, false, false, false] rfl rfl (one_of HT_.out (by kernel_rfl)) (by decide) (fun K hK => ?_)
                  have hcv34 := own_string (P := Try.prog) Try.underlying34 Try.underlying5 Try.underlying9 (Kd.own_of_R HO665.out)
                  refine value_ (w1 := ?_) (v := ?_) (by rfl) rfl ?_ ?_
                  rotate_left 2
                  · go_simp
                    constructor
                    · rfl
                    · rfl
                  clear hcv34
                  refine hK.out _ _ ⟨Kd.C_string (P := Try.prog) (A := A0) (c := c0) (dst := 9) Try.underlying34 Try.underlying5 Try.underlying9 (Kd.C_below HR0.out (by repeat (first | (with_reducible first | exact HB.out | apply below_alloc | apply pw_below_drewN | apply below_drew1) | exact HB.out))), trivial⟩ (fun hHeld => ?_)
                  clear hK K
                  refine norm_ (a' := ?_) ?_ ?_
                  rotate_left
                  · show Act.put _ (some 71) _ = _
                    simp only [Act.put, List.setIfInBounds_toArray, List.set_cons_zero, List.set_cons_succ, i64_w, i32_w]
                    rfl
                  refine pureP #[true, true, true, true, true, true, true, true, true, true, true, true, true, true, false, false, false, false, false, false, false, false, false] (any_of HT_.out (by kernel_rfl)) (i := 13) (N := some 74) ?_
                  refine pureP #[true, true, true, true, true, true, true, true, true, true, true, true, true, true, true, false, false, false, false, false, false, false, false] (any_of HT_.out (by kernel_rfl)) (i := 14) (N := some 75) ?_
                  refine pureP #[true, true, true, true, true, true, true, true, true, true, true, true, true, true, true, true, false, false, false, false, false, false, false] (any_of HT_.out (by kernel_rfl)) (i := 15) (N := some 76) ?_
                  refine pureP #[true, true, true, true, true, true, true, true, true, true, true, true, true, true, true, true, true, false, false, false, false, false, false] (any_of HT_.out (by kernel_rfl)) (i := 16) (N := some 77) ?_
                  refine pureP #[true, true, true, true, true, true, true, true, true, true, true, true, true, true, true, true, true, false, true, false, false, false, false] (any_of HT_.out (by kernel_rfl)) (i := 18) (N := some 79) ?_
                  refine one_ (i := 17) (N := some 78) #[true, true, true, true, true, true, true, true, true, true, true, true, true, true, true, true, true, true, true, false, false, false, false] rfl rfl (one_of HT_.out (by kernel_rfl)) (by decide) (fun K hK => ?_)
                  refine goes_ Try.func18 (by kernel_rfl) rfl #[.slice Ao31 t655.length co31] (by rfl) rfl rfl (by (try simp only [List.map_toArray, List.map_cons, List.map_nil]); first | done | rfl | (simp only [List.length_drop, List.length_take]; rfl)) ?_
                  with_reducible refine (runs_Fold_int64.calls kj8 _ _ t655 t666 _ ?side1 ?side2 A29.out).mono ?_
                  (case side1 => repeat (first | exact (Kd.R_reads' HO_9.out).2.2 | (with_reducible refine Kd.C_alloc ?_ _) | (with_reducible refine Kd.C_drewN ?_ _) | (with_reducible refine Kd.C_drew ?_)))
                  (case side2 => exact (Kd.R_reads' HO_9.out).2.1)
                  rintro e w37 ⟨v667, rfl, ho0, hb⟩
                  refine ⟨_, rfl, ?_⟩
                  have n0_ := Aside0.mk (Kd.R_elder' (by (with_reducible repeat (first | apply Kd.R_alloc | apply Kd.R_drewN | apply Kd.R_drew)); exact HO_5.out) (Kd.R_base ho0) hb)
                  have n1_ := Aside0.mk (Kd.R_below (by (with_reducible repeat (first | apply Kd.R_alloc | apply Kd.R_drewN | apply Kd.R_drew)); exact HO_7.out) hb)
                  have n2_ := Aside0.mk (Kd.R_below (by (with_reducible repeat (first | apply Kd.R_alloc | apply Kd.R_drewN | apply Kd.R_drew)); exact HO_9.out) hb)
                  have n3_ := Aside0.mk (Kd.R_below (by (with_reducible repeat (first | apply Kd.R_alloc | apply Kd.R_drewN | apply Kd.R_drew)); exact HO_11.out) hb)
                  have n4_ := Aside0.mk (Kd.R_below (by (with_reducible repeat (first | apply Kd.R_alloc | apply Kd.R_drewN | apply Kd.R_drew)); exact HO665.out) hb)
                  have n5_ := Aside0.mk (Kd.R_lower (Kd.R_new' ho0 (Kd.R_lt (by (with_reducible repeat (first | apply Kd.R_alloc | apply Kd.R_drewN | apply Kd.R_drew)); exact HO_5.out))) (below_size (by repeat (first | (with_reducible first | exact HB.out | apply below_alloc | apply pw_below_drewN | apply below_drew1) | exact HB.out))))
                  have n6_ := Aside0.mk (below_step (by repeat (first | (with_reducible first | exact HB.out | apply below_alloc | apply pw_below_drewN | apply below_drew1) | exact HB.out)) hb)
                  clear HO_5
                  clear HO_7
                  clear HO_9
                  clear HO_11
                  clear HO665
                  clear HB
                  have HO_5 := n0_
                  have HO_7 := n1_
                  have HO_9 := n2_
                  have HO_11 := n3_
                  have HO665 := n4_
                  have HO668 := n5_
                  have HB := n6_
                  clear n0_ n1_ n2_ n3_ n4_ n5_ n6_
                  (try clear hb)
                  (try clear hb2)
                  (try clear hk)
                  (try clear hi)
                  (try clear ho0)
                  obtain ⟨Ao38, co38, eo38⟩ := Kd.R_slice HO668.out
                  (first | subst eo38 | (injection eo38 with f1_ f2_ f3_; have f4_ := f1_.symm; have f5_ := f3_.symm; clear f1_ f2_ f3_; subst f4_; subst f5_))
                  refine hK.out _ _ ⟨Kd.C_string (P := Try.prog) (A := A0) (c := c0) (dst := 9) Try.underlying34 Try.underlying5 Try.underlying9 (Kd.C_below HR0.out (by repeat (first | (with_reducible first | exact HB.out | apply below_alloc | apply pw_below_drewN | apply below_drew1) | exact HB.out))), trivial⟩ (fun hHeld => ?_)
                  clear hK K
                  refine norm_ (a' := ?_) ?_ ?_
                  rotate_left
                  · show Act.put _ (some 78) _ = _
                    simp only [Act.put, List.setIfInBounds_toArray, List.set_cons_zero, List.set_cons_succ, i64_w, i32_w]
                    rfl
                  refine one_ (i := 19) (N := some 80) #[true, true, true, true, true, true, true, true, true, true, true, true, true, true, true, true, true, true, true, true, false, false, false] rfl rfl (one_of HT_.out (by kernel_rfl)) (by decide) (fun K hK => ?_)
                  refine goes_ Try.func17 (by kernel_rfl) rfl #[.slice Ao38 t666.length co38, .slice Ao13 t647.length co13] (by rfl) rfl rfl (by (try simp only [List.map_toArray, List.map_cons, List.map_nil]); first | done | rfl | (simp only [List.length_drop, List.length_take]; rfl)) ?_
                  with_reducible refine (runs_Run_int64_17.calls kj8 _ _ t666 _ _ t647 t669 _ ?side1 ?side2 ?side3 ?side4 A30.out).mono ?_
                  (case side1 => repeat (first | exact (Kd.R_reads' HO668.out).2.2 | (with_reducible refine Kd.C_alloc ?_ _) | (with_reducible refine Kd.C_drewN ?_ _) | (with_reducible refine Kd.C_drew ?_)))
                  (case side2 => exact (Kd.R_reads' HO668.out).2.1)
                  (case side3 => repeat (first | exact (Kd.R_reads' HO_5.out).2.2 | (with_reducible refine Kd.C_alloc ?_ _) | (with_reducible refine Kd.C_drewN ?_ _) | (with_reducible refine Kd.C_drew ?_)))
                  (case side4 => exact (Kd.R_reads' HO_5.out).2.1)
                  rintro e w' ⟨rfl, ⟨nd, rfl⟩⟩
                  refine ⟨_, rfl, ?_⟩
                  refine hK.out _ _ ⟨Kd.C_string (P := Try.prog) (A := A0) (c := c0) (dst := 9) Try.underlying34 Try.underlying5 Try.underlying9 (Kd.C_below HR0.out (by repeat (first | (with_reducible first | exact HB.out | apply below_alloc | apply pw_below_drewN | apply below_drew1) | exact HB.out))), trivial⟩ (fun hHeld => ?_)
                  clear hK K
                  refine norm_ (a' := ?_) ?_ ?_
                  rotate_left
                  · show Act.put _ (some 80) _ = _
                    simp only [Act.put, List.setIfInBounds_toArray, List.set_cons_zero, List.set_cons_succ, i64_w, i32_w]
                    rfl
                  refine pureP #[true, true, true, true, true, true, true, true, true, true, true, true, true, true, true, true, true, true, true, true, true, false, false] (any_of HT_.out (by kernel_rfl)) (i := 20) (N := some 81) ?_
                  refine pureP #[true, true, true, true, true, true, true, true, true, true, true, true, true, true, true, true, true, true, true, true, true, true, false] (any_of HT_.out (by kernel_rfl)) (i := 21) (N := some 82) ?_
                  refine pureP #[true, true, true, true, true, true, true, true, true, true, true, true, true, true, true, true, true, true, true, true, true, true, true] (any_of HT_.out (by kernel_rfl)) (i := 22) (N := some 83) ?_
                  refine done_ (done_of HT_.out (by kernel_rfl)) ?_
                  try go_wp2
                  go_meet
                  case rel => exact ⟨_, (!t669), (by first | rfl | (simp; done) | (simp [*]; done)), H', ⟨by have := HJ8.out; first | omega | exact Nat.le_refl _⟩, ⟨by (with_reducible repeat (first | apply Kd.R_alloc | apply Kd.R_drewN | apply Kd.R_drew)); exact HO_7.out⟩, ⟨by (with_reducible repeat (first | apply Kd.R_alloc | apply Kd.R_drewN | apply Kd.R_drew)); exact HO_11.out⟩, ⟨by repeat (first | (with_reducible first | exact HB.out | apply below_alloc | apply pw_below_drewN | apply below_drew1) | exact HB.out)⟩⟩
                · rw [if_neg c28] at H
                  exact absurd ((colonnadelaw10_RunsForm.j1_dead H).trans htrue.out) (by decide)
              · rw [if_neg c26] at H
                exact absurd ((colonnadelaw10_RunsForm.j1_dead H).trans htrue.out) (by decide)
            · rw [if_neg c25] at H
              have c25b0 : (t648 == 0) = false := beq_eq_false_iff_ne.mpr c25
              have c25b1 : (t648 != 0) = true := bne_iff_ne.mpr c25
              (first | rw [c25b0] | (simp only [i64_w, i32_w]; rw [c25b0]) | skip)
              have H' := Aside0.mk H
              clear H
              try go_wp2
              have n0_ := Aside0.mk (Kd.R_drew HO_5.out)
              have n1_ := Aside0.mk (Kd.R_drew HO_7.out)
              have n2_ := Aside0.mk (Kd.R_drew HO_9.out)
              have n3_ := Aside0.mk (Kd.R_drew HO_11.out)
              have n4_ := Aside0.mk (below_drew1 HB.out)
              clear HO_5
              clear HO_7
              clear HO_9
              clear HO_11
              clear HB
              have HO_5 := n0_
              have HO_7 := n1_
              have HO_9 := n2_
              have HO_11 := n3_
              have HB := n4_
              clear n0_ n1_ n2_ n3_ n4_
              refine start_ (n := 23) (S := fun w' => True) (ds := []) #[false, false, false, false, false, false, false, false, false, false, false, false, false, false, false, false, false, false, false, false, false, false, false] (by kernel_rfl) rfl rfl trivial (fun hHeld => ?_); refine with_tabW colonnadelaw10_RunsForm.tab9 colonnadelaw10_RunsForm.bits9 (fun HT_ HW_ => ?_)
              generalize wc.drew = w47 at HO_5 HO_7 HO_9 HO_11 HB hHeld ⊢
              refine pureP #[true, false, false, false, false, false, false, false, false, false, false, false, false, false, false, false, false, false, false, false, false, false, false] (any_of HT_.out (by kernel_rfl)) (i := 0) (N := some 61) ?_
              refine pureP #[true, true, false, false, false, false, false, false, false, false, false, false, false, false, false, false, false, false, false, false, false, false, false] (any_of HT_.out (by kernel_rfl)) (i := 1) (N := some 62) ?_
              refine pureP #[true, true, true, false, false, false, false, false, false, false, false, false, false, false, false, false, false, false, false, false, false, false, false] (any_of HT_.out (by kernel_rfl)) (i := 2) (N := some 63) ?_
              refine pureO #[true, true, true, true, false, false, false, false, false, false, false, false, false, false, false, false, false, false, false, false, false, false, false] (any_of HT_.out (by kernel_rfl)) (i := 3) (N := some 64) ?_
              refine pureO #[true, true, true, true, true, false, false, false, false, false, false, false, false, false, false, false, false, false, false, false, false, false, false] (any_of HT_.out (by kernel_rfl)) (i := 4) (N := some 65) ?_
              refine pureO #[true, true, true, true, true, true, false, false, false, false, false, false, false, false, false, false, false, false, false, false, false, false, false] (any_of HT_.out (by kernel_rfl)) (i := 5) (N := some 66) ?_
              refine pureO #[true, true, true, true, true, true, true, false, false, false, false, false, false, false, false, false, false, false, false, false, false, false, false] (any_of HT_.out (by kernel_rfl)) (i := 6) (N := some 67) ?_
              refine pureO #[true, true, true, true, true, true, true, true, false, false, false, false, false, false, false, false, false, false, false, false, false, false, false] (any_of HT_.out (by kernel_rfl)) (i := 7) (N := some 68) ?_
              refine pureO #[true, true, true, true, true, true, true, true, true, false, false, false, false, false, false, false, false, false, false, false, false, false, false] (any_of HT_.out (by kernel_rfl)) (i := 8) (N := some 69) ?_
              refine pureO #[true, true, true, true, true, true, true, true, true, true, false, false, false, false, false, false, false, false, false, false, false, false, false] (any_of HT_.out (by kernel_rfl)) (i := 9) (N := some 70) ?_
              refine pureO #[true, true, true, true, true, true, true, true, true, true, true, false, false, false, false, false, false, false, false, false, false, false, false] (any_of HT_.out (by kernel_rfl)) (i := 10) (N := some 71) ?_
              refine pureO #[true, true, true, true, true, true, true, true, true, true, true, true, false, false, false, false, false, false, false, false, false, false, false] (any_of HT_.out (by kernel_rfl)) (i := 11) (N := some 72) ?_
              refine pureO #[true, true, true, true, true, true, true, true, true, true, true, true, true, false, false, false, false, false, false, false, false, false, false] (any_of HT_.out (by kernel_rfl)) (i := 12) (N := some 73) ?_
              refine pureO #[true, true, true, true, true, true, true, true, true, true, true, true, true, true, false, false, false, false, false, false, false, false, false] (any_of HT_.out (by kernel_rfl)) (i := 13) (N := some 74) ?_
              refine pureO #[true, true, true, true, true, true, true, true, true, true, true, true, true, true, true, false, false, false, false, false, false, false, false] (any_of HT_.out (by kernel_rfl)) (i := 14) (N := some 75) ?_
              refine pureO #[true, true, true, true, true, true, true, true, true, true, true, true, true, true, true, true, false, false, false, false, false, false, false] (any_of HT_.out (by kernel_rfl)) (i := 15) (N := some 76) ?_
              refine pureO #[true, true, true, true, true, true, true, true, true, true, true, true, true, true, true, true, true, false, false, false, false, false, false] (any_of HT_.out (by kernel_rfl)) (i := 16) (N := some 77) ?_
              refine pureO #[true, true, true, true, true, true, true, true, true, true, true, true, true, true, true, true, true, true, false, false, false, false, false] (any_of HT_.out (by kernel_rfl)) (i := 17) (N := some 78) ?_
              refine pureO #[true, true, true, true, true, true, true, true, true, true, true, true, true, true, true, true, true, true, true, false, false, false, false] (any_of HT_.out (by kernel_rfl)) (i := 18) (N := some 79) ?_
              refine pureO #[true, true, true, true, true, true, true, true, true, true, true, true, true, true, true, true, true, true, true, true, false, false, false] (any_of HT_.out (by kernel_rfl)) (i := 19) (N := some 80) ?_
              refine pureO #[true, true, true, true, true, true, true, true, true, true, true, true, true, true, true, true, true, true, true, true, true, false, false] (any_of HT_.out (by kernel_rfl)) (i := 20) (N := some 81) ?_
              refine pureO #[true, true, true, true, true, true, true, true, true, true, true, true, true, true, true, true, true, true, true, true, true, true, false] (any_of HT_.out (by kernel_rfl)) (i := 21) (N := some 82) ?_
              refine pureP #[true, true, true, true, true, true, true, true, true, true, true, true, true, true, true, true, true, true, true, true, true, true, true] (any_of HT_.out (by kernel_rfl)) (i := 22) (N := some 83) ?_
              refine done_ (done_of HT_.out (by kernel_rfl)) ?_
              try go_wp2
              go_meet
              case rel => exact ⟨_, (false), (by first | rfl | (simp; done) | (simp [*]; done)), H', ⟨by have := HJ8.out; first | omega | exact Nat.le_refl _⟩, ⟨by (with_reducible repeat (first | apply Kd.R_alloc | apply Kd.R_drewN | apply Kd.R_drew)); exact HO_7.out⟩, ⟨by (with_reducible repeat (first | apply Kd.R_alloc | apply Kd.R_drewN | apply Kd.R_drew)); exact HO_11.out⟩, ⟨by repeat (first | (with_reducible first | exact HB.out | apply below_alloc | apply pw_below_drewN | apply below_drew1) | exact HB.out)⟩⟩
          case rest =>
            clear HC24
            try clear c1
            try clear c2
            try clear p2
            try clear hcv4
            try clear c17
            try clear c23
            try clear c25
            try clear c25b0
            try clear c25b1
            try clear c26
            try clear c26b0
            try clear c26b1
            try clear c28
            try clear c28b0
            try clear c28b1
            try clear hcv42
            try clear hcv43
            obtain ⟨kq, x83_23, rfl, HA, HJ23, HO_7, HO_11, HB⟩ := hcut
            cases kq with
            | zero => exact absurd HA.out (by simp [colonnadelaw10_RunsForm.j1])
            | succ kj23 =>
              have H := HA.out
              clear HA
              simp only [colonnadelaw10_RunsForm.j1] at H
              by_cases c48 : x83_23 = true
              · subst c48
                have H1 : (some false) = some r := by rw [if_pos rfl] at H; exact H
                exact absurd ((Option.some.inj H1).trans htrue.out) (by decide)
              · replace c48 := Bool.eq_false_iff.mpr c48
                subst c48
                have H1 : (if t652 = 0 then (if (t659.length : Int) = a1 then ((runs_PutTexts.f kj23 t659).bind fun t670 => (if (strOfNums t670).toList = (strOfNums l0).toList then ((runs_Fold_string.f kj23 t659).bind fun t673 => ((runs_Run_string_19.f kj23 t673 t651).bind fun t676 => (some t676))) else (some false))) else (some false)) else (some true)) = some r := by rw [if_neg (show ¬ (false = true) by decide)] at H; exact H
                clear H
                have H := H1
                clear H1
                by_cases c49 : t652 = 0
                · rw [if_pos c49] at H
                  have c49b0 : (t652 == 0) = true := beq_iff_eq.mpr c49
                  have c49b1 : (t652 != 0) = false := bne_eq_false_iff_eq.mpr c49
                  clear c49
                  by_cases c50 : (t659.length : Int) = a1
                  · rw [if_pos c50] at H
                    have c50b0 : ((t659.length : Int) == a1) = true := beq_iff_eq.mpr c50
                    have c50b1 : ((t659.length : Int) != a1) = false := bne_eq_false_iff_eq.mpr c50
                    clear c50
                    replace H := Option.bind_eq_some_iff.mp H
                    obtain ⟨t670, A510, H⟩ := H
                    replace H : (if (strOfNums t670).toList = (strOfNums l0).toList then ((runs_Fold_string.f kj23 t659).bind fun t673 => ((runs_Run_string_19.f kj23 t673 t651).bind fun t676 => (some t676))) else (some false)) = some r := H
                    have A51 := Aside0.mk A510
                    clear A510
                    by_cases c52 : (strOfNums t670).toList = (strOfNums l0).toList
                    · rw [if_pos c52] at H
                      have c52b0 : ((strOfNums t670).toList == (strOfNums l0).toList) = true := beq_iff_eq.mpr c52
                      have c52b1 : ((strOfNums t670).toList != (strOfNums l0).toList) = false := bne_eq_false_iff_eq.mpr c52
                      clear c52
                      replace H := Option.bind_eq_some_iff.mp H
                      obtain ⟨t673, A530, H⟩ := H
                      replace H : ((runs_Run_string_19.f kj23 t673 t651).bind fun t676 => (some t676)) = some r := H
                      have A53 := Aside0.mk A530
                      clear A530
                      replace H := Option.bind_eq_some_iff.mp H
                      obtain ⟨t676, A540, H⟩ := H
                      replace H : (some t676) = some r := H
                      have A54 := Aside0.mk A540
                      clear A540
                      obtain rfl := Option.some.inj H
                      obtain ⟨Ao55, co55, eo55⟩ := Kd.R_slice HO_11.out
                      subst eo55
                      try go_wp2
                      have n0_ := Aside0.mk (Kd.R_drew HO_7.out)
                      have n1_ := Aside0.mk (Kd.R_drew HO_11.out)
                      have n2_ := Aside0.mk (below_drew1 HB.out)
                      clear HO_7
                      clear HO_11
                      clear HB
                      have HO_7 := n0_
                      have HO_11 := n1_
                      have HB := n2_
                      clear n0_ n1_ n2_
                      refine start_ (n := 23) (S := fun w' => ((convert 34 9 (.slice A0 l0.length c0)).run Try.prog w' = .ok (.string (strOfNums l0)) w') ∧ True) (ds := []) #[false, false, false, false, false, false, false, false, false, false, false, false, false, false, false, false, false, false, false, false, false, false, false] (by kernel_rfl) rfl rfl ⟨Kd.C_string (P := Try.prog) (A := A0) (c := c0) (dst := 9) Try.underlying34 Try.underlying5 Try.underlying9 (Kd.C_below HR0.out (by repeat (first | (with_reducible first | exact HB.out | apply below_alloc | apply pw_below_drewN | apply below_drew1) | exact HB.out))), trivial⟩ (fun hHeld => ?_); refine with_tabW colonnadelaw10_RunsForm.tab11 colonnadelaw10_RunsForm.bits11 (fun HT_ HW_ => ?_)
                      generalize wc.drew = w56 at HO_7 HO_11 HB hHeld ⊢
                      refine pureP #[true, false, false, false, false, false, false, false, false, false, false, false, false, false, false, false, false, false, false, false, false, false, false] (any_of HT_.out (by kernel_rfl)) (i := 0) (N := some 84) ?_
                      refine pureP #[true, true, false, false, false, false, false, false, false, false, false, false, false, false, false, false, false, false, false, false, false, false, false] (any_of HT_.out (by kernel_rfl)) (i := 1) (N := some 85) ?_
                      refine pureP #[true, true, true, false, false, false, false, false, false, false, false, false, false, false, false, false, false, false, false, false, false, false, false] (any_of HT_.out (by kernel_rfl)) (i := 2) (N := some 86) ?_
                      refine pureP #[true, true, true, true, false, false, false, false, false, false, false, false, false, false, false, false, false, false, false, false, false, false, false] (any_of HT_.out (by kernel_rfl)) (i := 3) (N := some 87) ?_
                      refine pureP #[true, true, true, true, true, false, false, false, false, false, false, false, false, false, false, false, false, false, false, false, false, false, false] (any_of HT_.out (by kernel_rfl)) (i := 4) (N := some 88) ?_
                      refine pureP #[true, true, true, true, true, true, false, false, false, false, false, false, false, false, false, false, false, false, false, false, false, false, false] (any_of HT_.out (by kernel_rfl)) (i := 5) (N := some 89) ?_
                      refine pureP #[true, true, true, true, true, true, true, false, false, false, false, false, false, false, false, false, false, false, false, false, false, false, false] (any_of HT_.out (by kernel_rfl)) (i := 6) (N := some 90) ?_
                      refine pureP #[true, true, true, true, true, true, true, true, false, false, false, false, false, false, false, false, false, false, false, false, false, false, false] (any_of HT_.out (by kernel_rfl)) (i := 7) (N := some 91) ?_
                      refine pureP #[true, true, true, true, true, true, true, true, true, false, false, false, false, false, false, false, false, false, false, false, false, false, false] (any_of HT_.out (by kernel_rfl)) (i := 8) (N := some 92) ?_
                      refine pureP #[true, true, true, true, true, true, true, true, true, false, false, true, false, false, false, false, false, false, false, false, false, false, false] (any_of HT_.out (by kernel_rfl)) (i := 11) (N := some 95) ?_
                      refine take_ (i := 12) (N := some 96) (v := ?_) (a' := ?_) #[true, true, true, true, true, true, true, true, true, false, false, true, true, false, false, false, false, false, false, false, false, false, false] rfl rfl (take_ofW HT_.out HW_.out (by kernel_rfl)) (fun _ _ _ h => h) (Or.inl ⟨by rfl, ?_⟩) hHeld ?_ ?_
                      rotate_left
                      · intro w' hS_; (repeat obtain ⟨_, hS_⟩ := hS_)
                        go_simp
                        with_reducible rfl
                      rotate_left
                      · simp only [Act.put, List.setIfInBounds_toArray, List.set_cons_zero, List.set_cons_succ, i64_w, i32_w]
                        rfl
                      refine one_ (i := 9) (N := some 93) #[true, true, true, true, true, true, true, true, true, true, false, true, true, false, false, false, false, false, false, false, false, false, false] rfl rfl (one_of HT_.out (by kernel_rfl)) (by decide) (fun K hK => ?_)
                      refine goes_ Try.func24 (by kernel_rfl) rfl #[.slice Ao55 t659.length co55] (by rfl) rfl rfl (by (try simp only [List.map_toArray, List.map_cons, List.map_nil]); first | done | rfl | (simp only [List.length_drop, List.length_take]; rfl)) ?_
                      with_reducible refine (runs_PutTexts.calls kj23 _ _ t659 t670 _ ?side1 ?side2 A51.out).mono ?_
                      (case side1 => repeat (first | exact (Kd.R_reads' HO_11.out).2.2 | (with_reducible refine Kd.C_alloc ?_ _) | (with_reducible refine Kd.C_drewN ?_ _) | (with_reducible refine Kd.C_drew ?_)))
                      (case side2 => exact (Kd.R_reads' HO_11.out).2.1)
                      rintro e w57 ⟨v671, rfl, ho0, hb⟩
                      refine ⟨_, rfl, ?_⟩
                      have n0_ := Aside0.mk (Kd.R_below (by (with_reducible repeat (first | apply Kd.R_alloc | apply Kd.R_drewN | apply Kd.R_drew)); exact HO_7.out) hb)
                      have n1_ := Aside0.mk (Kd.R_below (by (with_reducible repeat (first | apply Kd.R_alloc | apply Kd.R_drewN | apply Kd.R_drew)); exact HO_11.out) hb)
                      have n2_ := Aside0.mk (Kd.R_lower ho0 (below_size (by repeat (first | (with_reducible first | exact HB.out | apply below_alloc | apply pw_below_drewN | apply below_drew1) | exact HB.out))))
                      have n3_ := Aside0.mk (below_step (by repeat (first | (with_reducible first | exact HB.out | apply below_alloc | apply pw_below_drewN | apply below_drew1) | exact HB.out)) hb)
                      clear HO_7
                      clear HO_11
                      clear HB
                      have HO_7 := n0_
                      have HO_11 := n1_
                      have HO672 := n2_
                      have HB := n3_
                      clear n0_ n1_ n2_ n3_
                      (try clear hb)
                      (try clear hb2)
                      (try clear hk)
                      (try clear hi)
                      (try clear ho0)
                      have hcv59 := Kd.C_string (P := Try.prog) (A := A0) (c := c0) Try.underlying34 Try.underlying5 Try.underlying9 (Kd.C_below HR0.out HB.out)
                      refine hK.out _ _ ⟨Kd.C_string (P := Try.prog) (A := A0) (c := c0) (dst := 9) Try.underlying34 Try.underlying5 Try.underlying9 (Kd.C_below HR0.out (by repeat (first | (with_reducible first | exact HB.out | apply below_alloc | apply pw_below_drewN | apply below_drew1) | exact HB.out))), trivial⟩ (fun hHeld => ?_)
                      clear hK K
                      refine norm_ (a' := ?_) ?_ ?_
                      rotate_left
                      · show Act.put _ (some 93) _ = _
                        simp only [Act.put, List.setIfInBounds_toArray, List.set_cons_zero, List.set_cons_succ, i64_w, i32_w]
                        rfl
                      refine one_ (i := 10) (N := some 94) #[true, true, true, true, true, true, true, true, true, true, true, true, true, false, false, false, false, false, false, false, false, false, false] rfl rfl (one_of HT_.out (by kernel_rfl)) (by decide) (fun K hK => ?_)
                      have hcv58 := own_string (P := Try.prog) Try.underlying34 Try.underlying5 Try.underlying9 (Kd.own_of_R HO672.out)
                      refine value_ (w1 := ?_) (v := ?_) (by rfl) rfl ?_ ?_
                      rotate_left 2
                      · go_simp
                        constructor
                        · rfl
                        · rfl
                      clear hcv58
                      refine hK.out _ _ ⟨Kd.C_string (P := Try.prog) (A := A0) (c := c0) (dst := 9) Try.underlying34 Try.underlying5 Try.underlying9 (Kd.C_below HR0.out (by repeat (first | (with_reducible first | exact HB.out | apply below_alloc | apply pw_below_drewN | apply below_drew1) | exact HB.out))), trivial⟩ (fun hHeld => ?_)
                      clear hK K
                      refine norm_ (a' := ?_) ?_ ?_
                      rotate_left
                      · show Act.put _ (some 94) _ = _
                        simp only [Act.put, List.setIfInBounds_toArray, List.set_cons_zero, List.set_cons_succ, i64_w, i32_w]
                        rfl
                      refine pureP #[true, true, true, true, true, true, true, true, true, true, true, true, true, true, false, false, false, false, false, false, false, false, false] (any_of HT_.out (by kernel_rfl)) (i := 13) (N := some 97) ?_
                      refine pureP #[true, true, true, true, true, true, true, true, true, true, true, true, true, true, true, false, false, false, false, false, false, false, false] (any_of HT_.out (by kernel_rfl)) (i := 14) (N := some 98) ?_
                      refine pureP #[true, true, true, true, true, true, true, true, true, true, true, true, true, true, true, true, false, false, false, false, false, false, false] (any_of HT_.out (by kernel_rfl)) (i := 15) (N := some 99) ?_
                      refine pureP #[true, true, true, true, true, true, true, true, true, true, true, true, true, true, true, true, true, false, false, false, false, false, false] (any_of HT_.out (by kernel_rfl)) (i := 16) (N := some 100) ?_
                      refine pureP #[true, true, true, true, true, true, true, true, true, true, true, true, true, true, true, true, true, false, true, false, false, false, false] (any_of HT_.out (by kernel_rfl)) (i := 18) (N := some 102) ?_
                      refine one_ (i := 17) (N := some 101) #[true, true, true, true, true, true, true, true, true, true, true, true, true, true, true, true, true, true, true, false, false, false, false] rfl rfl (one_of HT_.out (by kernel_rfl)) (by decide) (fun K hK => ?_)
                      refine goes_ Try.func20 (by kernel_rfl) rfl #[.slice Ao55 t659.length co55] (by rfl) rfl rfl (by (try simp only [List.map_toArray, List.map_cons, List.map_nil]); first | done | rfl | (simp only [List.length_drop, List.length_take]; rfl)) ?_
                      with_reducible refine (runs_Fold_string.calls kj23 _ _ t659 t673 _ ?side1 ?side2 A53.out).mono ?_
                      (case side1 => repeat (first | exact (Kd.R_reads' HO_11.out).2.2 | (with_reducible refine Kd.C_alloc ?_ _) | (with_reducible refine Kd.C_drewN ?_ _) | (with_reducible refine Kd.C_drew ?_)))
                      (case side2 => exact (Kd.R_reads' HO_11.out).2.1)
                      rintro e w61 ⟨v674, rfl, ho0, hb⟩
                      refine ⟨_, rfl, ?_⟩
                      have n0_ := Aside0.mk (Kd.R_elder' (by (with_reducible repeat (first | apply Kd.R_alloc | apply Kd.R_drewN | apply Kd.R_drew)); exact HO_7.out) (Kd.R_base ho0) hb)
                      have n1_ := Aside0.mk (Kd.R_below (by (with_reducible repeat (first | apply Kd.R_alloc | apply Kd.R_drewN | apply Kd.R_drew)); exact HO_11.out) hb)
                      have n2_ := Aside0.mk (Kd.R_below (by (with_reducible repeat (first | apply Kd.R_alloc | apply Kd.R_drewN | apply Kd.R_drew)); exact HO672.out) hb)
                      have n3_ := Aside0.mk (Kd.R_lower (Kd.R_new' ho0 (Kd.R_lt (by (with_reducible repeat (first | apply Kd.R_alloc | apply Kd.R_drewN | apply Kd.R_drew)); exact HO_7.out))) (below_size (by repeat (first | (with_reducible first | exact HB.out | apply below_alloc | apply pw_below_drewN | apply below_drew1) | exact HB.out))))
                      have n4_ := Aside0.mk (below_step (by repeat (first | (with_reducible first | exact HB.out | apply below_alloc | apply pw_below_drewN | apply below_drew1) | exact HB.out)) hb)
                      clear HO_7
                      clear HO_11
                      clear HO672
                      clear HB
                      have HO_7 := n0_
                      have HO_11 := n1_
                      have HO672 := n2_
                      have HO675 := n3_
                      have HB := n4_
                      clear n0_ n1_ n2_ n3_ n4_
                      (try clear hb)
                      (try clear hb2)
                      (try clear hk)
                      (try clear hi)
                      (try clear ho0)
                      obtain ⟨Ao62, co62, eo62⟩ := Kd.R_slice HO675.out
                      (first | subst eo62 | (injection eo62 with f1_ f2_ f3_; have f4_ := f1_.symm; have f5_ := f3_.symm; clear f1_ f2_ f3_; subst f4_; subst f5_))
                      refine hK.out _ _ ⟨Kd.C_string (P := Try.prog) (A := A0) (c := c0) (dst := 9) Try.underlying34 Try.underlying5 Try.underlying9 (Kd.C_below HR0.out (by repeat (first | (with_reducible first | exact HB.out | apply below_alloc | apply pw_below_drewN | apply below_drew1) | exact HB.out))), trivial⟩ (fun hHeld => ?_)
                      clear hK K
                      refine norm_ (a' := ?_) ?_ ?_
                      rotate_left
                      · show Act.put _ (some 101) _ = _
                        simp only [Act.put, List.setIfInBounds_toArray, List.set_cons_zero, List.set_cons_succ, i64_w, i32_w]
                        rfl
                      refine one_ (i := 19) (N := some 103) #[true, true, true, true, true, true, true, true, true, true, true, true, true, true, true, true, true, true, true, true, false, false, false] rfl rfl (one_of HT_.out (by kernel_rfl)) (by decide) (fun K hK => ?_)
                      refine goes_ Try.func19 (by kernel_rfl) rfl #[.slice Ao62 t673.length co62, .slice Ao15 t651.length co15] (by rfl) rfl rfl (by (try simp only [List.map_toArray, List.map_cons, List.map_nil]); first | done | rfl | (simp only [List.length_drop, List.length_take]; rfl)) ?_
                      with_reducible refine (runs_Run_string_19.calls kj23 _ _ t673 _ _ t651 t676 _ ?side1 ?side2 ?side3 ?side4 A54.out).mono ?_
                      (case side1 => repeat (first | exact (Kd.R_reads' HO675.out).2.2 | (with_reducible refine Kd.C_alloc ?_ _) | (with_reducible refine Kd.C_drewN ?_ _) | (with_reducible refine Kd.C_drew ?_)))
                      (case side2 => exact (Kd.R_reads' HO675.out).2.1)
                      (case side3 => repeat (first | exact (Kd.R_reads' HO_7.out).2.2 | (with_reducible refine Kd.C_alloc ?_ _) | (with_reducible refine Kd.C_drewN ?_ _) | (with_reducible refine Kd.C_drew ?_)))
                      (case side4 => exact (Kd.R_reads' HO_7.out).2.1)
                      rintro e w' ⟨rfl, ⟨nd, rfl⟩⟩
                      refine ⟨_, rfl, ?_⟩
                      refine hK.out _ _ ⟨Kd.C_string (P := Try.prog) (A := A0) (c := c0) (dst := 9) Try.underlying34 Try.underlying5 Try.underlying9 (Kd.C_below HR0.out (by repeat (first | (with_reducible first | exact HB.out | apply below_alloc | apply pw_below_drewN | apply below_drew1) | exact HB.out))), trivial⟩ (fun hHeld => ?_)
                      clear hK K
                      refine norm_ (a' := ?_) ?_ ?_
                      rotate_left
                      · show Act.put _ (some 103) _ = _
                        simp only [Act.put, List.setIfInBounds_toArray, List.set_cons_zero, List.set_cons_succ, i64_w, i32_w]
                        rfl
                      refine pureP #[true, true, true, true, true, true, true, true, true, true, true, true, true, true, true, true, true, true, true, true, true, false, false] (any_of HT_.out (by kernel_rfl)) (i := 20) (N := some 104) ?_
                      refine pureP #[true, true, true, true, true, true, true, true, true, true, true, true, true, true, true, true, true, true, true, true, true, true, false] (any_of HT_.out (by kernel_rfl)) (i := 21) (N := some 105) ?_
                      refine pureP #[true, true, true, true, true, true, true, true, true, true, true, true, true, true, true, true, true, true, true, true, true, true, true] (any_of HT_.out (by kernel_rfl)) (i := 22) (N := some 4) ?_
                      refine done_ (done_of HT_.out (by kernel_rfl)) ?_
                      try go_wp2
                      go_ret
                      exact ⟨by first | rfl | (simp [errW_none, errW_some] <;> rfl) | (simp [*, errW_none, errW_some] <;> rfl), by repeat (first | (with_reducible first | exact HB.out | apply below_alloc | apply pw_below_drewN | apply below_drew1) | exact HB.out)⟩
                    · rw [if_neg c52] at H
                      exact absurd ((Option.some.inj H).trans htrue.out) (by decide)
                  · rw [if_neg c50] at H
                    exact absurd ((Option.some.inj H).trans htrue.out) (by decide)
                · rw [if_neg c49] at H
                  have c49b0 : (t652 == 0) = false := beq_eq_false_iff_ne.mpr c49
                  have c49b1 : (t652 != 0) = true := bne_iff_ne.mpr c49
                  obtain rfl := Option.some.inj H
                  try go_wp2
                  have n0_ := Aside0.mk (Kd.R_drew HO_7.out)
                  have n1_ := Aside0.mk (Kd.R_drew HO_11.out)
                  have n2_ := Aside0.mk (below_drew1 HB.out)
                  clear HO_7
                  clear HO_11
                  clear HB
                  have HO_7 := n0_
                  have HO_11 := n1_
                  have HB := n2_
                  clear n0_ n1_ n2_
                  refine start_ (n := 23) (S := fun w' => True) (ds := []) #[false, false, false, false, false, false, false, false, false, false, false, false, false, false, false, false, false, false, false, false, false, false, false] (by kernel_rfl) rfl rfl trivial (fun hHeld => ?_); refine with_tabW colonnadelaw10_RunsForm.tab11 colonnadelaw10_RunsForm.bits11 (fun HT_ HW_ => ?_)
                  generalize wc.drew = w71 at HO_7 HO_11 HB hHeld ⊢
                  refine pureP #[true, false, false, false, false, false, false, false, false, false, false, false, false, false, false, false, false, false, false, false, false, false, false] (any_of HT_.out (by kernel_rfl)) (i := 0) (N := some 84) ?_
                  refine pureP #[true, true, false, false, false, false, false, false, false, false, false, false, false, false, false, false, false, false, false, false, false, false, false] (any_of HT_.out (by kernel_rfl)) (i := 1) (N := some 85) ?_
                  refine pureP #[true, true, true, false, false, false, false, false, false, false, false, false, false, false, false, false, false, false, false, false, false, false, false] (any_of HT_.out (by kernel_rfl)) (i := 2) (N := some 86) ?_
                  refine pureO #[true, true, true, true, false, false, false, false, false, false, false, false, false, false, false, false, false, false, false, false, false, false, false] (any_of HT_.out (by kernel_rfl)) (i := 3) (N := some 87) ?_
                  refine pureO #[true, true, true, true, true, false, false, false, false, false, false, false, false, false, false, false, false, false, false, false, false, false, false] (any_of HT_.out (by kernel_rfl)) (i := 4) (N := some 88) ?_
                  refine pureO #[true, true, true, true, true, true, false, false, false, false, false, false, false, false, false, false, false, false, false, false, false, false, false] (any_of HT_.out (by kernel_rfl)) (i := 5) (N := some 89) ?_
                  refine pureO #[true, true, true, true, true, true, true, false, false, false, false, false, false, false, false, false, false, false, false, false, false, false, false] (any_of HT_.out (by kernel_rfl)) (i := 6) (N := some 90) ?_
                  refine pureO #[true, true, true, true, true, true, true, true, false, false, false, false, false, false, false, false, false, false, false, false, false, false, false] (any_of HT_.out (by kernel_rfl)) (i := 7) (N := some 91) ?_
                  refine pureO #[true, true, true, true, true, true, true, true, true, false, false, false, false, false, false, false, false, false, false, false, false, false, false] (any_of HT_.out (by kernel_rfl)) (i := 8) (N := some 92) ?_
                  refine pureO #[true, true, true, true, true, true, true, true, true, true, false, false, false, false, false, false, false, false, false, false, false, false, false] (any_of HT_.out (by kernel_rfl)) (i := 9) (N := some 93) ?_
                  refine pureO #[true, true, true, true, true, true, true, true, true, true, true, false, false, false, false, false, false, false, false, false, false, false, false] (any_of HT_.out (by kernel_rfl)) (i := 10) (N := some 94) ?_
                  refine pureO #[true, true, true, true, true, true, true, true, true, true, true, true, false, false, false, false, false, false, false, false, false, false, false] (any_of HT_.out (by kernel_rfl)) (i := 11) (N := some 95) ?_
                  refine pureO #[true, true, true, true, true, true, true, true, true, true, true, true, true, false, false, false, false, false, false, false, false, false, false] (any_of HT_.out (by kernel_rfl)) (i := 12) (N := some 96) ?_
                  refine pureO #[true, true, true, true, true, true, true, true, true, true, true, true, true, true, false, false, false, false, false, false, false, false, false] (any_of HT_.out (by kernel_rfl)) (i := 13) (N := some 97) ?_
                  refine pureO #[true, true, true, true, true, true, true, true, true, true, true, true, true, true, true, false, false, false, false, false, false, false, false] (any_of HT_.out (by kernel_rfl)) (i := 14) (N := some 98) ?_
                  refine pureO #[true, true, true, true, true, true, true, true, true, true, true, true, true, true, true, true, false, false, false, false, false, false, false] (any_of HT_.out (by kernel_rfl)) (i := 15) (N := some 99) ?_
                  refine pureO #[true, true, true, true, true, true, true, true, true, true, true, true, true, true, true, true, true, false, false, false, false, false, false] (any_of HT_.out (by kernel_rfl)) (i := 16) (N := some 100) ?_
                  refine pureO #[true, true, true, true, true, true, true, true, true, true, true, true, true, true, true, true, true, true, false, false, false, false, false] (any_of HT_.out (by kernel_rfl)) (i := 17) (N := some 101) ?_
                  refine pureO #[true, true, true, true, true, true, true, true, true, true, true, true, true, true, true, true, true, true, true, false, false, false, false] (any_of HT_.out (by kernel_rfl)) (i := 18) (N := some 102) ?_
                  refine pureO #[true, true, true, true, true, true, true, true, true, true, true, true, true, true, true, true, true, true, true, true, false, false, false] (any_of HT_.out (by kernel_rfl)) (i := 19) (N := some 103) ?_
                  refine pureO #[true, true, true, true, true, true, true, true, true, true, true, true, true, true, true, true, true, true, true, true, true, false, false] (any_of HT_.out (by kernel_rfl)) (i := 20) (N := some 104) ?_
                  refine pureP #[true, true, true, true, true, true, true, true, true, true, true, true, true, true, true, true, true, true, true, true, true, true, false] (any_of HT_.out (by kernel_rfl)) (i := 21) (N := some 105) ?_
                  refine pureP #[true, true, true, true, true, true, true, true, true, true, true, true, true, true, true, true, true, true, true, true, true, true, true] (any_of HT_.out (by kernel_rfl)) (i := 22) (N := some 4) ?_
                  refine done_ (done_of HT_.out (by kernel_rfl)) ?_
                  try go_wp2
                  go_ret
                  exact ⟨by first | rfl | (simp [errW_none, errW_some] <;> rfl) | (simp [*, errW_none, errW_some] <;> rfl), by repeat (first | (with_reducible first | exact HB.out | apply below_alloc | apply pw_below_drewN | apply below_drew1) | exact HB.out)⟩
  · replace c4 := Bool.eq_false_iff.mpr c4
    subst c4
    have H1 : (some false) = some r := by rw [if_neg (show ¬ (false = true) by decide)] at H; exact H
    exact absurd ((Option.some.inj H1).trans htrue.out) (by decide)

end Go.Proofs.Ythlpkdmandcngaa.Pa
