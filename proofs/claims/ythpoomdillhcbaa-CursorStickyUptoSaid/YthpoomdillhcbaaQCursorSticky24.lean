/- The texts of CursorSticky, merged: part 24. -/
import Derived.Test.YthpoomdillhcbaaQCursorSticky5
import Derived.Test.YthpoomdillhcbaaQCursorSticky15
import Derived.Test.YthpoomdillhcbaaQCursorSticky17
import Derived.Test.YthpoomdillhcbaaQCursorSticky18
import Derived.Test.YthpoomdillhcbaaQCursorSticky23
import Derived.Test.YthpoomdillhcbaaQCursorSticky16
-- Written by xprint.py, a program of this session, over the kit's print. Not trusted: Lean checks it.
namespace Go.Proofs.Ythpoomdillhcbaa.Pa
open Go.RowKit Go.Proofs.YthpoomdillhcbaaW.PrintWords Go.Proofs.YthpoomdillhcbaaW.PrintLast Go.Proofs.YthpoomdillhcbaaW.PrintMore
attribute [local go_sem] max2_int min2_int max_two min_two max_three min_three max_four min_four   -- for this text's walks alone
attribute [local go_sem] run_store_float cmp_feq cmp_fne cmp_flt cmp_fle cmp_fgt cmp_fge un_fneg equalIn_feq run_fop run_fint run_freal cmp_sgt
set_option linter.unusedVariables false
set_option linter.unusedSimpArgs false

/-! ### colonnadelaw07_CursorSticky: function 8 -/
mutual
def colonnadelaw07_CursorSticky.j0 : Nat → List (S48) → Int → Int → Bool → List Int → Int → Int → Option (Bool)
  | 0, _, _, _, _, _, _, _ => none
  | k + 1, x1, x6, x7, x27, x705000, x705001, x705002 => if x27 = true then (some false) else (colonnadelaw07_CursorSticky.l0 k x1 x6 x7 0 x705000 x705001 x705002)
def colonnadelaw07_CursorSticky.l0 : Nat → List (S48) → Int → Int → Int → List Int → Int → Int → Option (Bool)
  | 0, _, _, _, _, _, _, _ => none
  | k + 1, x1, x6, x7, x8, x705000, x705001, x705002 => if x8 < (x1.length : Int) then (if 0 ≤ x8 then ((colonnadelaw07_pick.f ((rd_T48 x1 x8).f1) 10).bind fun t713 => ((colonnadelaw07_ask.f x705000 x705001 x705002 ((rd_T48 x1 x8).f0) t713 ((rd_T48 x1 x8).f2) ((rd_T48 x1 x8).f3)).bind fun bt714 => (if bt714.1 = 0 then (if (bt714.2.1.length : Int) = 0 then (colonnadelaw07_CursorSticky.j2 k x1 x6 x7 x8 ((bt714.2.2.1.length : Int) == 0) x705000 bt714.2.2.2.1 bt714.2.2.2.2) else (colonnadelaw07_CursorSticky.j2 k x1 x6 x7 x8 false x705000 bt714.2.2.2.1 bt714.2.2.2.2)) else (colonnadelaw07_CursorSticky.j2 k x1 x6 x7 x8 false x705000 bt714.2.2.2.1 bt714.2.2.2.2)))) else (none)) else (some true)
def colonnadelaw07_CursorSticky.j2 : Nat → List (S48) → Int → Int → Int → Bool → List Int → Int → Int → Option (Bool)
  | 0, _, _, _, _, _, _, _, _ => none
  | k + 1, x1, x6, x7, x8, x11, x705000, x705001, x705002 => if x7 = 0 then (colonnadelaw07_CursorSticky.j3 k x1 x6 x7 x8 x11 false x705000 x705001 x705002) else (if x11 = true then ((cursor_Reader_Fault.f x705000 x705001 x705002).bind fun bt724 => (if bt724.1 = x7 then ((cursor_Reader_Left.f x705000 bt724.2.1 bt724.2.2).bind fun bt727 => (if bt727.1 = x6 then ((cursor_Reader_End.f x705000 bt727.2.1 bt727.2.2).bind fun bt730 => (colonnadelaw07_CursorSticky.j3 k x1 x6 x7 x8 x11 (bt730.1 != x7) x705000 bt730.2.1 bt730.2.2)) else (colonnadelaw07_CursorSticky.j3 k x1 x6 x7 x8 x11 true x705000 bt727.2.1 bt727.2.2))) else (colonnadelaw07_CursorSticky.j3 k x1 x6 x7 x8 x11 true x705000 bt724.2.1 bt724.2.2))) else (colonnadelaw07_CursorSticky.j3 k x1 x6 x7 x8 x11 true x705000 x705001 x705002))
def colonnadelaw07_CursorSticky.j3 : Nat → List (S48) → Int → Int → Int → Bool → Bool → List Int → Int → Int → Option (Bool)
  | 0, _, _, _, _, _, _, _, _, _ => none
  | k + 1, x1, x6, x7, x8, x11, x83, x705000, x705001, x705002 => if x83 = true then (some false) else (if x7 = 0 then ((cursor_Reader_Fault.f x705000 x705001 x705002).bind fun bt733 => (if bt733.1 = 0 then (colonnadelaw07_CursorSticky.j4 k x1 x6 x8 false x705000 bt733.2.1 bt733.2.2) else (if x11 = true then ((cursor_Reader_Left.f x705000 bt733.2.1 bt733.2.2).bind fun bt736 => (colonnadelaw07_CursorSticky.j4 k x1 x6 x8 (bt736.1 != x6) x705000 bt736.2.1 bt736.2.2)) else (colonnadelaw07_CursorSticky.j4 k x1 x6 x8 true x705000 bt733.2.1 bt733.2.2)))) else (colonnadelaw07_CursorSticky.j4 k x1 x6 x8 false x705000 x705001 x705002))
def colonnadelaw07_CursorSticky.j4 : Nat → List (S48) → Int → Int → Bool → List Int → Int → Int → Option (Bool)
  | 0, _, _, _, _, _, _, _ => none
  | k + 1, x1, x6, x8, x100, x705000, x705001, x705002 => if x100 = true then (some false) else ((cursor_Reader_Left.f x705000 x705001 x705002).bind fun bt739 => (if bt739.1 > x6 then (colonnadelaw07_CursorSticky.j5 k x1 x8 true x705000 bt739.2.1 bt739.2.2) else ((cursor_Reader_Left.f x705000 bt739.2.1 bt739.2.2).bind fun bt742 => (colonnadelaw07_CursorSticky.j5 k x1 x8 (decide (bt742.1 < 0)) x705000 bt742.2.1 bt742.2.2))))
def colonnadelaw07_CursorSticky.j5 : Nat → List (S48) → Int → Bool → List Int → Int → Int → Option (Bool)
  | 0, _, _, _, _, _, _ => none
  | k + 1, x1, x8, x109, x705000, x705001, x705002 => if x109 = true then (some false) else ((cursor_Reader_Fault.f x705000 x705001 x705002).bind fun bt745 => ((cursor_Reader_Left.f x705000 bt745.2.1 bt745.2.2).bind fun bt748 => (if bt745.1 = 0 then ((cursor_Reader_End.f x705000 bt748.2.1 bt748.2.2).bind fun bt751 => (if ((bt751.1 == 0) != (bt748.1 == 0)) = true then (some false) else (colonnadelaw07_CursorSticky.l0 k x1 bt748.1 bt745.1 (wrap64 (x8 + 1)) x705000 bt751.2.1 bt751.2.2))) else (colonnadelaw07_CursorSticky.l0 k x1 bt748.1 bt745.1 (wrap64 (x8 + 1)) x705000 bt748.2.1 bt748.2.2))))
end
def colonnadelaw07_CursorSticky.f (k : Nat) (l0 : List Int) (l1 : List (S48)) : Option (Bool) := (colonnadelaw07_awake.f k).bind fun t700 => (if t700 = true then ((cursor_Open.f l0).bind fun bt701 => ((cursor_Reader_Left.f bt701.1 bt701.2.1 bt701.2.2).bind fun bt705 => (if bt705.1 = (l0.length : Int) then ((cursor_Reader_Fault.f bt701.1 bt705.2.1 bt705.2.2).bind fun bt708 => (colonnadelaw07_CursorSticky.j0 k l1 (l0.length : Int) 0 (bt708.1 != 0) bt701.1 bt708.2.1 bt708.2.2)) else (colonnadelaw07_CursorSticky.j0 k l1 (l0.length : Int) 0 true bt701.1 bt705.2.1 bt705.2.2)))) else (some false))
theorem colonnadelaw07_CursorSticky.mono_l : ∀ k, (∀ y0 y1 y2 y3 y4 y5 y6, LeO (colonnadelaw07_CursorSticky.j0 k y0 y1 y2 y3 y4 y5 y6) (colonnadelaw07_CursorSticky.j0 (k + 1) y0 y1 y2 y3 y4 y5 y6)) ∧ (∀ y0 y1 y2 y3 y4 y5 y6, LeO (colonnadelaw07_CursorSticky.l0 k y0 y1 y2 y3 y4 y5 y6) (colonnadelaw07_CursorSticky.l0 (k + 1) y0 y1 y2 y3 y4 y5 y6)) ∧ (∀ y0 y1 y2 y3 y4 y5 y6 y7, LeO (colonnadelaw07_CursorSticky.j2 k y0 y1 y2 y3 y4 y5 y6 y7) (colonnadelaw07_CursorSticky.j2 (k + 1) y0 y1 y2 y3 y4 y5 y6 y7)) ∧ (∀ y0 y1 y2 y3 y4 y5 y6 y7 y8, LeO (colonnadelaw07_CursorSticky.j3 k y0 y1 y2 y3 y4 y5 y6 y7 y8) (colonnadelaw07_CursorSticky.j3 (k + 1) y0 y1 y2 y3 y4 y5 y6 y7 y8)) ∧ (∀ y0 y1 y2 y3 y4 y5 y6, LeO (colonnadelaw07_CursorSticky.j4 k y0 y1 y2 y3 y4 y5 y6) (colonnadelaw07_CursorSticky.j4 (k + 1) y0 y1 y2 y3 y4 y5 y6)) ∧ (∀ y0 y1 y2 y3 y4 y5, LeO (colonnadelaw07_CursorSticky.j5 k y0 y1 y2 y3 y4 y5) (colonnadelaw07_CursorSticky.j5 (k + 1) y0 y1 y2 y3 y4 y5))
  | 0 => ⟨fun _ _ _ _ _ _ _ r h => by simp [colonnadelaw07_CursorSticky.j0] at h, fun _ _ _ _ _ _ _ r h => by simp [colonnadelaw07_CursorSticky.l0] at h, fun _ _ _ _ _ _ _ _ r h => by simp [colonnadelaw07_CursorSticky.j2] at h, fun _ _ _ _ _ _ _ _ _ r h => by simp [colonnadelaw07_CursorSticky.j3] at h, fun _ _ _ _ _ _ _ r h => by simp [colonnadelaw07_CursorSticky.j4] at h, fun _ _ _ _ _ _ r h => by simp [colonnadelaw07_CursorSticky.j5] at h⟩
  | k + 1 => by
    obtain ⟨ih0, ih1, ih2, ih3, ih4, ih5⟩ := colonnadelaw07_CursorSticky.mono_l k
    refine ⟨?_, ?_, ?_, ?_, ?_, ?_⟩
    · intro y0 y1 y2 y3 y4 y5 y6
      unfold colonnadelaw07_CursorSticky.j0
      repeat' first
      | (with_reducible exact ih0 _ _ _ _ _ _ _)
      | (with_reducible exact ih1 _ _ _ _ _ _ _)
      | (with_reducible exact ih2 _ _ _ _ _ _ _ _)
      | (with_reducible exact ih3 _ _ _ _ _ _ _ _ _)
      | (with_reducible exact ih4 _ _ _ _ _ _ _)
      | (with_reducible exact ih5 _ _ _ _ _ _)
      | (with_reducible exact colonnadelaw07_awake.mono _)
      | (with_reducible exact LeO.refl _)
      | (with_reducible exact LeO.none _)
      | (with_reducible refine LeO.ite ?_ ?_)
      | (with_reducible refine LeO.bind ?_ (fun _ => ?_))
      | exact ih0 _ _ _ _ _ _ _
      | exact ih1 _ _ _ _ _ _ _
      | exact ih2 _ _ _ _ _ _ _ _
      | exact ih3 _ _ _ _ _ _ _ _ _
      | exact ih4 _ _ _ _ _ _ _
      | exact ih5 _ _ _ _ _ _
      | exact colonnadelaw07_awake.mono _
      | exact LeO.none _
      | refine LeO.ite ?_ ?_
      | refine LeO.bind ?_ (fun _ => ?_)
    · intro y0 y1 y2 y3 y4 y5 y6
      unfold colonnadelaw07_CursorSticky.l0
      repeat' first
      | (with_reducible exact ih0 _ _ _ _ _ _ _)
      | (with_reducible exact ih1 _ _ _ _ _ _ _)
      | (with_reducible exact ih2 _ _ _ _ _ _ _ _)
      | (with_reducible exact ih3 _ _ _ _ _ _ _ _ _)
      | (with_reducible exact ih4 _ _ _ _ _ _ _)
      | (with_reducible exact ih5 _ _ _ _ _ _)
      | (with_reducible exact colonnadelaw07_awake.mono _)
      | (with_reducible exact LeO.refl _)
      | (with_reducible exact LeO.none _)
      | (with_reducible refine LeO.ite ?_ ?_)
      | (with_reducible refine LeO.bind ?_ (fun _ => ?_))
      | exact ih0 _ _ _ _ _ _ _
      | exact ih1 _ _ _ _ _ _ _
      | exact ih2 _ _ _ _ _ _ _ _
      | exact ih3 _ _ _ _ _ _ _ _ _
      | exact ih4 _ _ _ _ _ _ _
      | exact ih5 _ _ _ _ _ _
      | exact colonnadelaw07_awake.mono _
      | exact LeO.none _
      | refine LeO.ite ?_ ?_
      | refine LeO.bind ?_ (fun _ => ?_)
    · intro y0 y1 y2 y3 y4 y5 y6 y7
      unfold colonnadelaw07_CursorSticky.j2
      repeat' first
      | (with_reducible exact ih0 _ _ _ _ _ _ _)
      | (with_reducible exact ih1 _ _ _ _ _ _ _)
      | (with_reducible exact ih2 _ _ _ _ _ _ _ _)
      | (with_reducible exact ih3 _ _ _ _ _ _ _ _ _)
      | (with_reducible exact ih4 _ _ _ _ _ _ _)
      | (with_reducible exact ih5 _ _ _ _ _ _)
      | (with_reducible exact colonnadelaw07_awake.mono _)
      | (with_reducible exact LeO.refl _)
      | (with_reducible exact LeO.none _)
      | (with_reducible refine LeO.ite ?_ ?_)
      | (with_reducible refine LeO.bind ?_ (fun _ => ?_))
      | exact ih0 _ _ _ _ _ _ _
      | exact ih1 _ _ _ _ _ _ _
      | exact ih2 _ _ _ _ _ _ _ _
      | exact ih3 _ _ _ _ _ _ _ _ _
      | exact ih4 _ _ _ _ _ _ _
      | exact ih5 _ _ _ _ _ _
      | exact colonnadelaw07_awake.mono _
      | exact LeO.none _
      | refine LeO.ite ?_ ?_
      | refine LeO.bind ?_ (fun _ => ?_)
    · intro y0 y1 y2 y3 y4 y5 y6 y7 y8
      unfold colonnadelaw07_CursorSticky.j3
      repeat' first
      | (with_reducible exact ih0 _ _ _ _ _ _ _)
      | (with_reducible exact ih1 _ _ _ _ _ _ _)
      | (with_reducible exact ih2 _ _ _ _ _ _ _ _)
      | (with_reducible exact ih3 _ _ _ _ _ _ _ _ _)
      | (with_reducible exact ih4 _ _ _ _ _ _ _)
      | (with_reducible exact ih5 _ _ _ _ _ _)
      | (with_reducible exact colonnadelaw07_awake.mono _)
      | (with_reducible exact LeO.refl _)
      | (with_reducible exact LeO.none _)
      | (with_reducible refine LeO.ite ?_ ?_)
      | (with_reducible refine LeO.bind ?_ (fun _ => ?_))
      | exact ih0 _ _ _ _ _ _ _
      | exact ih1 _ _ _ _ _ _ _
      | exact ih2 _ _ _ _ _ _ _ _
      | exact ih3 _ _ _ _ _ _ _ _ _
      | exact ih4 _ _ _ _ _ _ _
      | exact ih5 _ _ _ _ _ _
      | exact colonnadelaw07_awake.mono _
      | exact LeO.none _
      | refine LeO.ite ?_ ?_
      | refine LeO.bind ?_ (fun _ => ?_)
    · intro y0 y1 y2 y3 y4 y5 y6
      unfold colonnadelaw07_CursorSticky.j4
      repeat' first
      | (with_reducible exact ih0 _ _ _ _ _ _ _)
      | (with_reducible exact ih1 _ _ _ _ _ _ _)
      | (with_reducible exact ih2 _ _ _ _ _ _ _ _)
      | (with_reducible exact ih3 _ _ _ _ _ _ _ _ _)
      | (with_reducible exact ih4 _ _ _ _ _ _ _)
      | (with_reducible exact ih5 _ _ _ _ _ _)
      | (with_reducible exact colonnadelaw07_awake.mono _)
      | (with_reducible exact LeO.refl _)
      | (with_reducible exact LeO.none _)
      | (with_reducible refine LeO.ite ?_ ?_)
      | (with_reducible refine LeO.bind ?_ (fun _ => ?_))
      | exact ih0 _ _ _ _ _ _ _
      | exact ih1 _ _ _ _ _ _ _
      | exact ih2 _ _ _ _ _ _ _ _
      | exact ih3 _ _ _ _ _ _ _ _ _
      | exact ih4 _ _ _ _ _ _ _
      | exact ih5 _ _ _ _ _ _
      | exact colonnadelaw07_awake.mono _
      | exact LeO.none _
      | refine LeO.ite ?_ ?_
      | refine LeO.bind ?_ (fun _ => ?_)
    · intro y0 y1 y2 y3 y4 y5
      unfold colonnadelaw07_CursorSticky.j5
      repeat' first
      | (with_reducible exact ih0 _ _ _ _ _ _ _)
      | (with_reducible exact ih1 _ _ _ _ _ _ _)
      | (with_reducible exact ih2 _ _ _ _ _ _ _ _)
      | (with_reducible exact ih3 _ _ _ _ _ _ _ _ _)
      | (with_reducible exact ih4 _ _ _ _ _ _ _)
      | (with_reducible exact ih5 _ _ _ _ _ _)
      | (with_reducible exact colonnadelaw07_awake.mono _)
      | (with_reducible exact LeO.refl _)
      | (with_reducible exact LeO.none _)
      | (with_reducible refine LeO.ite ?_ ?_)
      | (with_reducible refine LeO.bind ?_ (fun _ => ?_))
      | exact ih0 _ _ _ _ _ _ _
      | exact ih1 _ _ _ _ _ _ _
      | exact ih2 _ _ _ _ _ _ _ _
      | exact ih3 _ _ _ _ _ _ _ _ _
      | exact ih4 _ _ _ _ _ _ _
      | exact ih5 _ _ _ _ _ _
      | exact colonnadelaw07_awake.mono _
      | exact LeO.none _
      | refine LeO.ite ?_ ?_
      | refine LeO.bind ?_ (fun _ => ?_)
theorem colonnadelaw07_CursorSticky.mono : ∀ a0 a1 k, LeO (colonnadelaw07_CursorSticky.f k a0 a1) (colonnadelaw07_CursorSticky.f (k + 1) a0 a1) := by
  intro a0 a1 k
  obtain ⟨ih0, ih1, ih2, ih3, ih4, ih5⟩ := colonnadelaw07_CursorSticky.mono_l k
  unfold colonnadelaw07_CursorSticky.f
  repeat' first
      | (with_reducible exact ih0 _ _ _ _ _ _ _)
      | (with_reducible exact ih1 _ _ _ _ _ _ _)
      | (with_reducible exact ih2 _ _ _ _ _ _ _ _)
      | (with_reducible exact ih3 _ _ _ _ _ _ _ _ _)
      | (with_reducible exact ih4 _ _ _ _ _ _ _)
      | (with_reducible exact ih5 _ _ _ _ _ _)
      | (with_reducible exact colonnadelaw07_awake.mono _)
      | (with_reducible exact LeO.refl _)
      | (with_reducible exact LeO.none _)
      | (with_reducible refine LeO.ite ?_ ?_)
      | (with_reducible refine LeO.bind ?_ (fun _ => ?_))
      | exact ih0 _ _ _ _ _ _ _
      | exact ih1 _ _ _ _ _ _ _
      | exact ih2 _ _ _ _ _ _ _ _
      | exact ih3 _ _ _ _ _ _ _ _ _
      | exact ih4 _ _ _ _ _ _ _
      | exact ih5 _ _ _ _ _ _
      | exact colonnadelaw07_awake.mono _
      | exact LeO.none _
      | refine LeO.ite ?_ ?_
      | refine LeO.bind ?_ (fun _ => ?_)
theorem colonnadelaw07_CursorSticky.j0_dead {k : Nat} {y0 : List (S48)} {y1 : Int} {y2 : Int} {y4 : List Int} {y5 : Int} {y6 : Int} {r : Bool} (h : colonnadelaw07_CursorSticky.j0 k y0 y1 y2 true y4 y5 y6 = some r) : false = r := by
  cases k with
  | zero => rw [colonnadelaw07_CursorSticky.j0] at h; cases h
  | succ k => rw [colonnadelaw07_CursorSticky.j0, if_pos rfl] at h; exact Option.some.inj h
theorem colonnadelaw07_CursorSticky.j3_dead {k : Nat} {y0 : List (S48)} {y1 : Int} {y2 : Int} {y3 : Int} {y4 : Bool} {y6 : List Int} {y7 : Int} {y8 : Int} {r : Bool} (h : colonnadelaw07_CursorSticky.j3 k y0 y1 y2 y3 y4 true y6 y7 y8 = some r) : false = r := by
  cases k with
  | zero => rw [colonnadelaw07_CursorSticky.j3] at h; cases h
  | succ k => rw [colonnadelaw07_CursorSticky.j3, if_pos rfl] at h; exact Option.some.inj h
theorem colonnadelaw07_CursorSticky.j4_dead {k : Nat} {y0 : List (S48)} {y1 : Int} {y2 : Int} {y4 : List Int} {y5 : Int} {y6 : Int} {r : Bool} (h : colonnadelaw07_CursorSticky.j4 k y0 y1 y2 true y4 y5 y6 = some r) : false = r := by
  cases k with
  | zero => rw [colonnadelaw07_CursorSticky.j4] at h; cases h
  | succ k => rw [colonnadelaw07_CursorSticky.j4, if_pos rfl] at h; exact Option.some.inj h
theorem colonnadelaw07_CursorSticky.j5_dead {k : Nat} {y0 : List (S48)} {y1 : Int} {y3 : List Int} {y4 : Int} {y5 : Int} {r : Bool} (h : colonnadelaw07_CursorSticky.j5 k y0 y1 true y3 y4 y5 = some r) : false = r := by
  cases k with
  | zero => rw [colonnadelaw07_CursorSticky.j5] at h; cases h
  | succ k => rw [colonnadelaw07_CursorSticky.j5, if_pos rfl] at h; exact Option.some.inj h
set_option maxHeartbeats 8000000 in
set_option maxRecDepth 100000 in
theorem colonnadelaw07_CursorSticky.callsQ (k : Nat) (A0 : Option Addr) (c0 : Nat) (l0 : List Int) (A1 : Option Addr) (c1 : Nat) (l1 : List (S48)) (r : Bool) (w : World) (hr0 : Kd.C (Kd.int .u8) w A0 l0.length l0) (hc0 : l0.length ≤ c0) (hr1 : Kd.C k48 w A1 l1.length l1) (hc1 : l1.length ≤ c1) (h : colonnadelaw07_CursorSticky.f k l0 l1 = some r) (htrue : Aside0 (r = true)) (Q : World → Prop) (HQ : Aside0 (∀ w', Below w.heap.size w w' → Q w')) :
    Calls Try.prog 8 #[.slice A0 l0.length c0, .slice A1 l1.length c1] w fun e w' => e = .returned (.bool r) ∧ Q w' := by
  have hu48 := Try.underlying48
  have hu50 := Try.underlying50
  have HR0 := Aside0.mk hr0
  have HC0 := Aside0.mk hc0
  clear hr0 hc0
  have HR1 := Aside0.mk hr1
  have HC1 := Aside0.mk hc1
  clear hr1 hc1
  have HB := Aside0.mk (Below.refl w.heap.size w)
  have H : ((colonnadelaw07_awake.f k).bind fun t700 => (if t700 = true then ((cursor_Open.f l0).bind fun bt701 => ((cursor_Reader_Left.f bt701.1 bt701.2.1 bt701.2.2).bind fun bt705 => (if bt705.1 = (l0.length : Int) then ((cursor_Reader_Fault.f bt701.1 bt705.2.1 bt705.2.2).bind fun bt708 => (colonnadelaw07_CursorSticky.j0 k l1 (l0.length : Int) 0 (bt708.1 != 0) bt701.1 bt708.2.1 bt708.2.2)) else (colonnadelaw07_CursorSticky.j0 k l1 (l0.length : Int) 0 true bt701.1 bt705.2.1 bt705.2.2)))) else (some false))) = some r := h
  clear h
  replace H := Option.bind_eq_some_iff.mp H
  obtain ⟨t700, A30, H⟩ := H
  replace H : (if t700 = true then ((cursor_Open.f l0).bind fun bt701 => ((cursor_Reader_Left.f bt701.1 bt701.2.1 bt701.2.2).bind fun bt705 => (if bt705.1 = (l0.length : Int) then ((cursor_Reader_Fault.f bt701.1 bt705.2.1 bt705.2.2).bind fun bt708 => (colonnadelaw07_CursorSticky.j0 k l1 (l0.length : Int) 0 (bt708.1 != 0) bt701.1 bt708.2.1 bt708.2.2)) else (colonnadelaw07_CursorSticky.j0 k l1 (l0.length : Int) 0 true bt701.1 bt705.2.1 bt705.2.2)))) else (some false)) = some r := H
  have A3 := Aside0.mk A30
  clear A30
  by_cases c4 : t700 = true
  · subst c4
    have H1 : ((cursor_Open.f l0).bind fun bt701 => ((cursor_Reader_Left.f bt701.1 bt701.2.1 bt701.2.2).bind fun bt705 => (if bt705.1 = (l0.length : Int) then ((cursor_Reader_Fault.f bt701.1 bt705.2.1 bt705.2.2).bind fun bt708 => (colonnadelaw07_CursorSticky.j0 k l1 (l0.length : Int) 0 (bt708.1 != 0) bt701.1 bt708.2.1 bt708.2.2)) else (colonnadelaw07_CursorSticky.j0 k l1 (l0.length : Int) 0 true bt701.1 bt705.2.1 bt705.2.2)))) = some r := by rw [if_pos rfl] at H; exact H
    clear H
    have H := H1
    clear H1
    replace H := Option.bind_eq_some_iff.mp H
    obtain ⟨⟨t701, t702, t703⟩, A50, H⟩ := H
    replace H : ((cursor_Reader_Left.f t701 t702 t703).bind fun bt705 => (if bt705.1 = (l0.length : Int) then ((cursor_Reader_Fault.f t701 bt705.2.1 bt705.2.2).bind fun bt708 => (colonnadelaw07_CursorSticky.j0 k l1 (l0.length : Int) 0 (bt708.1 != 0) t701 bt708.2.1 bt708.2.2)) else (colonnadelaw07_CursorSticky.j0 k l1 (l0.length : Int) 0 true t701 bt705.2.1 bt705.2.2))) = some r := H
    have A5 := Aside0.mk A50
    clear A50
    have HC6 := Aside0.mk H
    clear H
    go_enter Try.func8, Try.ntmps8
    go_upto_region 6 with (first | ((with_reducible refine gate_callee (f := 27) rfl ?_); refine goesL_ (some 12) rfl rfl Try.func27 (by kernel_rfl) rfl #[] rfl (by (try simp only [List.map_toArray, List.map_cons, List.map_nil]); first | done | rfl | (simp only [List.length_drop, List.length_take]; rfl)) ?_; (with_reducible refine (colonnadelaw07_awake.calls k  true _ A3.out).mono ?_); rintro e w7 ⟨rfl, hb⟩; refine ⟨_, rfl, ?_⟩; have n0_ := Aside0.mk (below_step (by repeat (first | (with_reducible first | exact HB.out | apply below_alloc | apply pw_below_drewN | apply below_drew1) | exact HB.out)) hb); clear HB; have HB := n0_; clear n0_; (try clear hb); (try clear hb2); (try clear hk); (try clear hi)) | ((with_reducible refine gate_callee (f := 20) rfl ?_); refine goesL_ (some 15) rfl rfl Try.func20 (by kernel_rfl) rfl #[.slice A0 l0.length c0] rfl (by (try simp only [List.map_toArray, List.map_cons, List.map_nil]); first | done | rfl | (simp only [List.length_drop, List.length_take]; rfl)) ?_; refine (cursor_Open.callsW _ _ l0 t701 t702 t703 _ ?side2 ?side3 A5.out).mono ?_; (case side2 => exact Kd.C_below HR0.out (by repeat (first | (with_reducible first | exact HB.out | apply below_alloc | apply pw_below_drewN | apply below_drew1) | exact HB.out))); (case side3 => exact HC0.out); rintro e w8 ⟨w, g704, rfl, hb0, hi, hb⟩; refine ⟨_, rfl, ?_⟩; have hbw_ := Aside0.mk (below_step (by repeat (first | (with_reducible first | exact HB.out | apply below_alloc | apply pw_below_drewN | apply below_drew1) | exact HB.out)) hb0.out); (try (have n_ := Aside0.mk (Kd.C_below HR0.out hbw_.out); clear HR0; have HR0 := n_; clear n_)); (try (have n_ := Aside0.mk (Kd.C_below HR1.out hbw_.out); clear HR1; have HR1 := n_; clear n_)); have n_ := Aside0.mk (fun w' h => HQ.out w' (below_step hbw_.out h)); clear HQ; have HQ := n_; clear n_; clear HB; have HB := hb; have HI704 := hi; clear hb hi hbw_ hb0))
    (try simp only [Act.put, List.setIfInBounds_toArray, List.set_cons_zero, List.set_cons_succ])
    go_cut [27] (fun v27 wc => ∃ (kq : Nat) (x27_5 : Bool) (x705001_5 : Int) (x705002_5 : Int), v27 = .bool x27_5 ∧ Aside0 (colonnadelaw07_CursorSticky.j0 kq l1 (l0.length : Int) 0 x27_5 t701 x705001_5 x705002_5 = some r) ∧ Aside0 (kq ≤ k) ∧ Aside0 (IsS46 w wc g704 t701 x705001_5 x705002_5) ∧ Aside0 (Below w.heap.size w wc))
    case first =>
      have H := HC6.out
      clear HC6
      replace H := Option.bind_eq_some_iff.mp H
      obtain ⟨⟨t705, t706, t707⟩, A90, H⟩ := H
      replace H : (if t705 = (l0.length : Int) then ((cursor_Reader_Fault.f t701 t706 t707).bind fun bt708 => (colonnadelaw07_CursorSticky.j0 k l1 (l0.length : Int) 0 (bt708.1 != 0) t701 bt708.2.1 bt708.2.2)) else (colonnadelaw07_CursorSticky.j0 k l1 (l0.length : Int) 0 true t701 t706 t707)) = some r := H
      have A9 := Aside0.mk A90
      clear A90
      by_cases c10 : t705 = (l0.length : Int)
      · rw [if_pos c10] at H
        have c10b0 : (t705 == (l0.length : Int)) = true := beq_iff_eq.mpr c10
        have c10b1 : (t705 != (l0.length : Int)) = false := bne_eq_false_iff_eq.mpr c10
        clear c10
        (first | rw [c10b0] | (simp only [i64_w, i32_w]; rw [c10b0]) | skip)
        replace H := Option.bind_eq_some_iff.mp H
        obtain ⟨⟨t708, t709, t710⟩, A110, H⟩ := H
        replace H : (colonnadelaw07_CursorSticky.j0 k l1 (l0.length : Int) 0 (t708 != 0) t701 t709 t710) = some r := H
        have A11 := Aside0.mk A110
        clear A110
        have H' := Aside0.mk H
        clear H
        go_wp2_with (first | ((with_reducible refine gate_callee (f := 42) rfl ?_); refine goesL_ (some 19) rfl rfl Try.func42 (by kernel_rfl) rfl #[.pointer (some ⟨g704, 0, none⟩)] rfl (by (try simp only [List.map_toArray, List.map_cons, List.map_nil]); first | done | rfl | (simp only [List.length_drop, List.length_take]; rfl)) ?_; (with_reducible refine (cursor_Reader_Left.calls g704 t701 t702 t703 t705 t706 t707 w _ ?side1 ?side2 A9.out).mono ?_); (case side1 => repeat (first | (with_reducible first | exact HI704.out | apply IsS46.alloc | apply IsS46.drewN | apply IsS46.drew | apply IsS46.set_1 | apply IsS46.set_2) | exact HI704.out)); (case side2 => repeat (first | (with_reducible first | exact HB.out | apply below_alloc | apply pw_below_drewN | apply below_drew1 | refine below_set ?_ (IsS46.ge HI704.out)) | exact HB.out)); rintro e w12 ⟨rfl, hi, hb, hk⟩; refine ⟨_, rfl, ?_⟩; have n0_ := Aside0.mk (hb); have n1_ := Aside0.mk (hi); clear HB; clear HI704; have HB := n0_; have HI704 := n1_; clear n0_ n1_; (try clear hb); (try clear hb2); (try clear hk); (try clear hi)) | (go_at_call 43; (with_reducible refine (cursor_Reader_Fault.calls g704 t701 t706 t707 t708 t709 t710 w _ ?side1 ?side2 A11.out).mono ?_); (case side1 => repeat (first | (with_reducible first | exact HI704.out | apply IsS46.alloc | apply IsS46.drewN | apply IsS46.drew | apply IsS46.set_1 | apply IsS46.set_2) | exact HI704.out)); (case side2 => repeat (first | (with_reducible first | exact HB.out | apply below_alloc | apply pw_below_drewN | apply below_drew1 | refine below_set ?_ (IsS46.ge HI704.out)) | exact HB.out)); rintro e w13 ⟨rfl, hi, hb, hk⟩; (try clear A11); have n0_ := Aside0.mk (hb); have n1_ := Aside0.mk (hi); clear HB; clear HI704; have HB := n0_; have HI704 := n1_; clear n0_ n1_; (try clear hb); (try clear hb2); (try clear hk); (try clear hi)))
        go_meet
        case rel => exact ⟨_, ((t708 != 0)), (t709), (t710), (by first | rfl | (simp; done) | (simp [*]; done)), H', ⟨by first | omega | exact Nat.le_refl _⟩, ⟨by repeat (first | (with_reducible first | exact HI704.out | apply IsS46.alloc | apply IsS46.drewN | apply IsS46.drew | apply IsS46.set_1 | apply IsS46.set_2) | exact HI704.out)⟩, ⟨by repeat (first | (with_reducible first | exact HB.out | apply below_alloc | apply pw_below_drewN | apply below_drew1 | refine below_set ?_ (IsS46.ge HI704.out)) | exact HB.out)⟩⟩
      · rw [if_neg c10] at H
        exact absurd ((colonnadelaw07_CursorSticky.j0_dead H).trans htrue.out) (by decide)
    case rest =>
      clear HC6
      try clear c1
      try clear c2
      try clear p2
      try clear c4
      try clear c8
      try clear c10
      try clear c10b0
      try clear c10b1
      obtain ⟨kq, x27_5, x705001_5, x705002_5, rfl, HA, HJ5, HI704, HB⟩ := hcut
      cases kq with
      | zero => exact absurd HA.out (by simp [colonnadelaw07_CursorSticky.j0])
      | succ kj5 =>
        have H := HA.out
        clear HA
        simp only [colonnadelaw07_CursorSticky.j0] at H
        by_cases c15 : x27_5 = true
        · subst c15
          have H1 : (some false) = some r := by rw [if_pos rfl] at H; exact H
          exact absurd ((Option.some.inj H1).trans htrue.out) (by decide)
        · replace c15 := Bool.eq_false_iff.mpr c15
          subst c15
          have H1 : (colonnadelaw07_CursorSticky.l0 kj5 l1 (l0.length : Int) 0 0 t701 x705001_5 x705002_5) = some r := by rw [if_neg (show ¬ (false = true) by decide)] at H; exact H
          clear H
          have H := H1
          clear H1
          have H' := Aside0.mk H
          clear H
          go_wp2
          go_loopg [6, 7, 8] kj5 (fun kq v6 v7 v8 w' => ∃ (x6_2 : Int) (x7_2 : Int) (x8_2 : Int) (x705001_2 : Int) (x705002_2 : Int), v6 = .int .i64 x6_2 ∧ v7 = .int .i64 x7_2 ∧ v8 = .int .i64 x8_2 ∧ Aside0 (colonnadelaw07_CursorSticky.l0 kq l1 x6_2 x7_2 x8_2 t701 x705001_2 x705002_2 = some r) ∧ Aside0 (kq ≤ kj5) ∧ Aside0 (IsS46 w w' g704 t701 x705001_2 x705002_2) ∧ Aside0 (Below w.heap.size w w'))
          case atStart => exact ⟨((l0.length : Int)), (0), (0), (x705001_5), (x705002_5), (by first | rfl | (simp; done) | (simp [*]; done)), (by first | rfl | (simp; done) | (simp [*]; done)), (by first | rfl | (simp; done) | (simp [*]; done)), H', ⟨Nat.le_refl _⟩, ⟨by repeat (first | (with_reducible first | exact HI704.out | apply IsS46.alloc | apply IsS46.drewN | apply IsS46.drew | apply IsS46.set_1 | apply IsS46.set_2) | exact HI704.out)⟩, ⟨by repeat (first | (with_reducible first | exact HB.out | apply below_alloc | apply pw_below_drewN | apply below_drew1 | refine below_set ?_ (IsS46.ge HI704.out)) | exact HB.out)⟩⟩
          case round =>
            clear H'
            try clear c1
            try clear c2
            try clear p2
            try clear c4
            try clear c8
            try clear c10
            try clear c10b0
            try clear c10b1
            try clear c15
            try clear p2
            obtain ⟨x6_2, x7_2, x8_2, x705001_2, x705002_2, rfl, rfl, rfl, HA, HK2, HI704, HB⟩ := hrel
            cases gk with
            | zero => exact absurd HA.out (by simp [colonnadelaw07_CursorSticky.l0])
            | succ k2 =>
              have H := HA.out
              clear HA
              simp only [colonnadelaw07_CursorSticky.l0] at H
              by_cases c16 : x8_2 < (l1.length : Int)
              · rw [if_pos c16] at H
                have c16b0 : decide (x8_2 < (l1.length : Int)) = true := decide_eq_true c16
                clear c16
                by_cases c17 : 0 ≤ x8_2
                · rw [if_pos c17] at H
                  have c17b0 : decide (0 ≤ x8_2) = true := decide_eq_true c17
                  clear c17
                  replace H := Option.bind_eq_some_iff.mp H
                  obtain ⟨t713, A180, H⟩ := H
                  replace H : ((colonnadelaw07_ask.f t701 x705001_2 x705002_2 ((rd_T48 l1 x8_2).f0) t713 ((rd_T48 l1 x8_2).f2) ((rd_T48 l1 x8_2).f3)).bind fun bt714 => (if bt714.1 = 0 then (if (bt714.2.1.length : Int) = 0 then (colonnadelaw07_CursorSticky.j2 k2 l1 x6_2 x7_2 x8_2 ((bt714.2.2.1.length : Int) == 0) t701 bt714.2.2.2.1 bt714.2.2.2.2) else (colonnadelaw07_CursorSticky.j2 k2 l1 x6_2 x7_2 x8_2 false t701 bt714.2.2.2.1 bt714.2.2.2.2)) else (colonnadelaw07_CursorSticky.j2 k2 l1 x6_2 x7_2 x8_2 false t701 bt714.2.2.2.1 bt714.2.2.2.2))) = some r := H
                  have A18 := Aside0.mk A180
                  clear A180
                  replace H := Option.bind_eq_some_iff.mp H
                  obtain ⟨⟨t714, t715, t718, t721, t722⟩, A190, H⟩ := H
                  replace H : (if t714 = 0 then (if (t715.length : Int) = 0 then (colonnadelaw07_CursorSticky.j2 k2 l1 x6_2 x7_2 x8_2 ((t718.length : Int) == 0) t701 t721 t722) else (colonnadelaw07_CursorSticky.j2 k2 l1 x6_2 x7_2 x8_2 false t701 t721 t722)) else (colonnadelaw07_CursorSticky.j2 k2 l1 x6_2 x7_2 x8_2 false t701 t721 t722)) = some r := H
                  have A19 := Aside0.mk A190
                  clear A190
                  have HC20 := Aside0.mk H
                  clear H
                  have p711 : 0 ≤ (x8_2 : Int) := of_decide_eq_true (by first | (with_reducible assumption) | assumption)
                  have q711 : x8_2 < (l1.length : Int) := of_decide_eq_true (by first | (with_reducible assumption) | assumption)
                  obtain ⟨ad711, e711, hx711_0, hx711_1, hx711_2, hx711_3⟩ := at_T48 HR1.out x8_2 p711 q711
                  cases e711
                  replace hx711_0 := (HB.out.cell (World.block_lt_of_cell? w _ hx711_0)).trans hx711_0
                  replace hx711_1 := (HB.out.cell (World.block_lt_of_cell? w _ hx711_1)).trans hx711_1
                  replace hx711_2 := (HB.out.cell (World.block_lt_of_cell? w _ hx711_2)).trans hx711_2
                  replace hx711_3 := (HB.out.cell (World.block_lt_of_cell? w _ hx711_3)).trans hx711_3
                  replace p711 := eq_true p711
                  replace q711 := eq_true q711
                  go_upto_region 14 with (first | ((with_reducible refine gate_dst (N := 9) rfl ?_); (try (refine gate_guard (by rfl) ?_; dsimp only)); refine box_event ?hg (N := 9) ?hd (cs := #[.int .i64 0, .int .i64 0, .int .i64 0, .int .i64 0]) (t := 48) ?hr ?_; (case hd => rfl); (case hg => rfl); (case hr => first | (go_simp; done) | (go_simp; rfl)); intro gb712 hg w21 hbox hb; have n0_ := Aside0.mk (IsS46.below (by repeat (first | (with_reducible first | exact HI704.out | apply IsS46.alloc | apply IsS46.drewN | apply IsS46.drew | apply IsS46.set_1 | apply IsS46.set_2) | exact HI704.out)) hb); have n1_ := Aside0.mk (below_step (by repeat (first | (with_reducible first | exact HB.out | apply below_alloc | apply pw_below_drewN | apply below_drew1 | refine below_set ?_ (IsS46.ge HI704.out)) | exact HB.out)) hb); have n2_ := Aside0.mk (hbox); have n3_ := Aside0.mk ((by rw [hg]; exact (below_size (by repeat (first | (with_reducible first | exact HB.out | apply below_alloc | apply pw_below_drewN | apply below_drew1 | refine below_set ?_ (IsS46.ge HI704.out)) | exact HB.out))) : w.heap.size ≤ gb712)); have n4_ := Aside0.mk ((by rw [hg]; exact (below_size (by repeat (first | (with_reducible first | exact HB.out | apply below_alloc | apply pw_below_drewN | apply below_drew1 | refine below_set ?_ (IsS46.ge HI704.out)) | exact HB.out))) : w.heap.size ≤ gb712)); have n5_ := Aside0.mk ((by rw [hg]; exact Nat.ne_of_lt (IsS46.lt (show IsS46 w _ g704 t701 x705001_2 x705002_2 from by repeat (first | (with_reducible first | exact HI704.out | apply IsS46.alloc | apply IsS46.drewN | apply IsS46.drew | apply IsS46.set_1 | apply IsS46.set_2) | exact HI704.out))) : g704 ≠ gb712)); have n6_ := Aside0.mk ((by rw [hg]; exact Nat.ne_of_gt (IsS46.lt (show IsS46 w _ g704 t701 x705001_2 x705002_2 from by repeat (first | (with_reducible first | exact HI704.out | apply IsS46.alloc | apply IsS46.drewN | apply IsS46.drew | apply IsS46.set_1 | apply IsS46.set_2) | exact HI704.out))) : gb712 ≠ g704)); clear HI704; clear HB; have HI704 := n0_; have HB := n1_; have BK712 := n2_; have GW712 := n3_; have GE712 := n4_; have NB704_712 := n5_; have NB712_704 := n6_; clear n0_ n1_ n2_ n3_ n4_ n5_ n6_; clear hb hbox hg; have hnb22 := NB712_704.out; have hnc22 := NB704_712.out; obtain ⟨hcz23_0, hcz23_1, hcz23_2, hcz23_3⟩ := cells_4 BK712.out; obtain ⟨hfz23_0, hfz23_1, hfz23_2, hfz23_3⟩ := froz_4 BK712.out) | ((with_reducible refine gate_callee (f := 21) rfl ?_); refine goesL_ (some 40) rfl rfl Try.func21 (by kernel_rfl) rfl #[.int .i64 ((rd_T48 l1 x8_2).f1), .int .i64 10] rfl (by (try simp only [List.map_toArray, List.map_cons, List.map_nil]); first | done | rfl | (simp only [List.length_drop, List.length_take]; rfl)) ?_; (with_reducible refine (colonnadelaw07_pick.calls ((rd_T48 l1 x8_2).f1) 10 t713 _ A18.out).mono ?_); rintro e w' ⟨rfl, ⟨nd, rfl⟩⟩; refine ⟨_, rfl, ?_⟩; ((try simp only [drewN_set]); have n0_ := Aside0.mk (IsS46.drewN HI704.out nd); have n1_ := Aside0.mk (pw_below_drewN HB.out nd); have n2_ := Aside0.mk (blk_drewN BK712.out nd); clear HI704 HB BK712; generalize World.drewN w21 nd = w21 at n0_ n1_ n2_ ⊢; have HI704 := n0_; have HB := n1_; have BK712 := n2_; clear n0_ n1_ n2_; (try (have hczmBK712_0 : World.cell? w21 ⟨gb712, 0, none⟩ = some (.int .i64 0) := (blk_cell BK712.out 0).trans rfl)); (try have hfzmBK712_0 := blk_frozen BK712.out 0); (try (have hczmBK712_1 : World.cell? w21 ⟨gb712, 1, none⟩ = some (.int .i64 0) := (blk_cell BK712.out 1).trans rfl)); (try have hfzmBK712_1 := blk_frozen BK712.out 1); (try (have hczmBK712_2 : World.cell? w21 ⟨gb712, 2, none⟩ = some (.int .i64 0) := (blk_cell BK712.out 2).trans rfl)); (try have hfzmBK712_2 := blk_frozen BK712.out 2); (try (have hczmBK712_3 : World.cell? w21 ⟨gb712, 3, none⟩ = some (.int .i64 0) := (blk_cell BK712.out 3).trans rfl)); (try have hfzmBK712_3 := blk_frozen BK712.out 3); generalize hV_ : World.setCell _ _ _ = V_; have hV2_ : V_.heap[gb712]? = some (.cells #[.int .i64 ((rd_T48 l1 x8_2).f0), .int .i64 ((rd_T48 l1 x8_2).f1), .int .i64 ((rd_T48 l1 x8_2).f2), .int .i64 ((rd_T48 l1 x8_2).f3)] 48 (0, 0)) := (by rw [← hV_]; refine blk_put (cs := #[.int .i64 ((rd_T48 l1 x8_2).f0), .int .i64 ((rd_T48 l1 x8_2).f1), .int .i64 ((rd_T48 l1 x8_2).f2), .int .i64 0]) ?_ 3 _ rfl; (with_reducible repeat (first | refine blk_drewN ?_ _ | refine blk_drew ?_ | refine blk_alloc ?_ _)); refine blk_put (cs := #[.int .i64 ((rd_T48 l1 x8_2).f0), .int .i64 ((rd_T48 l1 x8_2).f1), .int .i64 0, .int .i64 0]) ?_ 2 _ rfl; (with_reducible repeat (first | refine blk_drewN ?_ _ | refine blk_drew ?_ | refine blk_alloc ?_ _)); refine blk_put (cs := #[.int .i64 ((rd_T48 l1 x8_2).f0), .int .i64 0, .int .i64 0, .int .i64 0]) ?_ 1 _ rfl; (with_reducible repeat (first | refine blk_drewN ?_ _ | refine blk_drew ?_ | refine blk_alloc ?_ _)); refine blk_put (cs := #[.int .i64 0, .int .i64 0, .int .i64 0, .int .i64 0]) ?_ 0 _ rfl; (with_reducible repeat (first | refine blk_drewN ?_ _ | refine blk_drew ?_ | refine blk_alloc ?_ _)); exact BK712.out); have hcvBK712_0 : World.cell? V_ ⟨gb712, 0, none⟩ = some (.int .i64 ((rd_T48 l1 x8_2).f0)) := (blk_cell hV2_ 0).trans rfl; have hfvBK712_0 := blk_frozen hV2_ 0; have hcvBK712_1 : World.cell? V_ ⟨gb712, 1, none⟩ = some (.int .i64 ((rd_T48 l1 x8_2).f1)) := (blk_cell hV2_ 1).trans rfl; have hfvBK712_1 := blk_frozen hV2_ 1; have hcvBK712_2 : World.cell? V_ ⟨gb712, 2, none⟩ = some (.int .i64 ((rd_T48 l1 x8_2).f2)) := (blk_cell hV2_ 2).trans rfl; have hfvBK712_2 := blk_frozen hV2_ 2; have hcvBK712_3 : World.cell? V_ ⟨gb712, 3, none⟩ = some (.int .i64 ((rd_T48 l1 x8_2).f3)) := (blk_cell hV2_ 3).trans rfl; have hfvBK712_3 := blk_frozen hV2_ 3; clear hV2_; subst hV_)) | ((with_reducible refine gate_callee (f := 23) rfl ?_); refine goesL_ (some 44) rfl rfl Try.func23 (by kernel_rfl) rfl #[.pointer (some ⟨g704, 0, none⟩), .agg #[.int .i64 ((rd_T48 l1 x8_2).f0), .int .i64 t713, .int .i64 ((rd_T48 l1 x8_2).f2), .int .i64 ((rd_T48 l1 x8_2).f3)]] rfl (by (try simp only [List.map_toArray, List.map_cons, List.map_nil]); first | done | rfl | (simp only [List.length_drop, List.length_take]; rfl)) ?_; (with_reducible refine (colonnadelaw07_ask.calls g704 t701 x705001_2 x705002_2 ((rd_T48 l1 x8_2).f0) t713 ((rd_T48 l1 x8_2).f2) ((rd_T48 l1 x8_2).f3) t714 t715 t718 t721 t722 w _ ?side1 ?side2 A19.out).mono ?_); (case side1 => repeat (first | (with_reducible first | exact HI704.out | apply IsS46.alloc | apply IsS46.drewN | apply IsS46.drew | apply IsS46.set_1 | apply IsS46.set_2 | refine IsS46.far ?_ NB704_712.out _) | exact HI704.out)); (case side2 => repeat (first | (with_reducible first | exact HB.out | apply below_alloc | apply pw_below_drewN | apply below_drew1 | refine below_set ?_ (IsS46.ge HI704.out) | refine below_set ?_ GE712.out) | exact HB.out)); rintro e w24 ⟨v716, v719, rfl, ho0, ho1, hi, hb, hk⟩; refine ⟨_, rfl, ?_⟩; have n0_ := Aside0.mk (KeepBut.blk hk (g' := gb712) (o := .cells #[.int .i64 ((rd_T48 l1 x8_2).f0), .int .i64 t713, .int .i64 ((rd_T48 l1 x8_2).f2), .int .i64 ((rd_T48 l1 x8_2).f3)] 48 (0, 0)) (by (with_reducible repeat (first | refine blk_drewN ?_ _ | refine blk_drew ?_ | refine blk_alloc ?_ _)); refine blk_put (cs := #[.int .i64 ((rd_T48 l1 x8_2).f0), .int .i64 ((rd_T48 l1 x8_2).f1), .int .i64 ((rd_T48 l1 x8_2).f2), .int .i64 ((rd_T48 l1 x8_2).f3)]) ?_ 1 _ rfl; (with_reducible repeat (first | refine blk_drewN ?_ _ | refine blk_drew ?_ | refine blk_alloc ?_ _)); refine blk_put (cs := #[.int .i64 ((rd_T48 l1 x8_2).f0), .int .i64 ((rd_T48 l1 x8_2).f1), .int .i64 ((rd_T48 l1 x8_2).f2), .int .i64 0]) ?_ 3 _ rfl; (with_reducible repeat (first | refine blk_drewN ?_ _ | refine blk_drew ?_ | refine blk_alloc ?_ _)); refine blk_put (cs := #[.int .i64 ((rd_T48 l1 x8_2).f0), .int .i64 ((rd_T48 l1 x8_2).f1), .int .i64 0, .int .i64 0]) ?_ 2 _ rfl; (with_reducible repeat (first | refine blk_drewN ?_ _ | refine blk_drew ?_ | refine blk_alloc ?_ _)); refine blk_put (cs := #[.int .i64 ((rd_T48 l1 x8_2).f0), .int .i64 0, .int .i64 0, .int .i64 0]) ?_ 1 _ rfl; (with_reducible repeat (first | refine blk_drewN ?_ _ | refine blk_drew ?_ | refine blk_alloc ?_ _)); refine blk_put (cs := #[.int .i64 0, .int .i64 0, .int .i64 0, .int .i64 0]) ?_ 0 _ rfl; (with_reducible repeat (first | refine blk_drewN ?_ _ | refine blk_drew ?_ | refine blk_alloc ?_ _)); exact BK712.out) NB712_704.out (by simp)); have n1_ := Aside0.mk (Kd.R_lower ho0 (below_size (by repeat (first | (with_reducible first | exact HB.out | apply below_alloc | apply pw_below_drewN | apply below_drew1 | refine below_set ?_ (IsS46.ge HI704.out) | refine below_set ?_ GE712.out) | exact HB.out)))); have n2_ := Aside0.mk (Kd.R_lower ho1 (below_size (by repeat (first | (with_reducible first | exact HB.out | apply below_alloc | apply pw_below_drewN | apply below_drew1 | refine below_set ?_ (IsS46.ge HI704.out) | refine below_set ?_ GE712.out) | exact HB.out)))); have n3_ := Aside0.mk (hb); have n4_ := Aside0.mk (hi); clear BK712; clear HB; clear HI704; have BK712 := n0_; have HO717 := n1_; have HO720 := n2_; have HB := n3_; have HI704 := n4_; clear n0_ n1_ n2_ n3_ n4_; (try clear hb); (try clear hb2); (try clear hk); (try clear hi); (try clear ho0); (try clear ho1)) | ((with_reducible refine gate_dst (N := 10) rfl ?_); (try (refine gate_guard (by rfl) ?_; dsimp only)); refine box_event ?hg (N := 10) ?hd (cs := #[.int .u64 0, .slice none 0 0, .slice none 0 0]) (t := 50) ?hr ?_; (case hd => rfl); (case hg => rfl); (case hr => first | (go_simp; done) | (go_simp; rfl)); intro gb723 hg w25 hbox hb; have n0_ := Aside0.mk (Kd.R_below (by (with_reducible repeat (first | apply Kd.R_alloc | apply Kd.R_drewN | apply Kd.R_drew)); exact HO717.out) hb); have n1_ := Aside0.mk (Kd.R_below (by (with_reducible repeat (first | apply Kd.R_alloc | apply Kd.R_drewN | apply Kd.R_drew)); exact HO720.out) hb); have n2_ := Aside0.mk (IsS46.below (by repeat (first | (with_reducible first | exact HI704.out | apply IsS46.alloc | apply IsS46.drewN | apply IsS46.drew | apply IsS46.set_1 | apply IsS46.set_2 | refine IsS46.far ?_ NB704_712.out _) | exact HI704.out)) hb); have n3_ := blkS BK712 hb; have n4_ := Aside0.mk (below_step (by repeat (first | (with_reducible first | exact HB.out | apply below_alloc | apply pw_below_drewN | apply below_drew1 | refine below_set ?_ (IsS46.ge HI704.out) | refine below_set ?_ GE712.out) | exact HB.out)) hb); have n5_ := Aside0.mk (hbox); have n6_ := Aside0.mk ((by rw [hg]; exact (below_size (by repeat (first | (with_reducible first | exact HB.out | apply below_alloc | apply pw_below_drewN | apply below_drew1 | refine below_set ?_ (IsS46.ge HI704.out) | refine below_set ?_ GE712.out) | exact HB.out))) : w.heap.size ≤ gb723)); have n7_ := Aside0.mk ((by rw [hg]; exact (below_size (by repeat (first | (with_reducible first | exact HB.out | apply below_alloc | apply pw_below_drewN | apply below_drew1 | refine below_set ?_ (IsS46.ge HI704.out) | refine below_set ?_ GE712.out) | exact HB.out))) : w.heap.size ≤ gb723)); have n8_ := Aside0.mk ((by rw [hg]; exact Nat.ne_of_lt (blk_lt (g := gb712) (o := .cells #[.int .i64 ((rd_T48 l1 x8_2).f0), .int .i64 t713, .int .i64 ((rd_T48 l1 x8_2).f2), .int .i64 ((rd_T48 l1 x8_2).f3)] 48 (0, 0)) (by (with_reducible repeat (first | refine blk_drewN ?_ _ | refine blk_drew ?_ | refine blk_alloc ?_ _)); exact BK712.out)) : gb712 ≠ gb723)); have n9_ := Aside0.mk ((by rw [hg]; exact Nat.ne_of_gt (blk_lt (g := gb712) (o := .cells #[.int .i64 ((rd_T48 l1 x8_2).f0), .int .i64 t713, .int .i64 ((rd_T48 l1 x8_2).f2), .int .i64 ((rd_T48 l1 x8_2).f3)] 48 (0, 0)) (by (with_reducible repeat (first | refine blk_drewN ?_ _ | refine blk_drew ?_ | refine blk_alloc ?_ _)); exact BK712.out)) : gb723 ≠ gb712)); have n10_ := Aside0.mk ((by rw [hg]; exact Nat.ne_of_lt (IsS46.lt (show IsS46 w _ g704 t701 t721 t722 from by repeat (first | (with_reducible first | exact HI704.out | apply IsS46.alloc | apply IsS46.drewN | apply IsS46.drew | apply IsS46.set_1 | apply IsS46.set_2 | refine IsS46.far ?_ NB704_712.out _) | exact HI704.out))) : g704 ≠ gb723)); have n11_ := Aside0.mk ((by rw [hg]; exact Nat.ne_of_gt (IsS46.lt (show IsS46 w _ g704 t701 t721 t722 from by repeat (first | (with_reducible first | exact HI704.out | apply IsS46.alloc | apply IsS46.drewN | apply IsS46.drew | apply IsS46.set_1 | apply IsS46.set_2 | refine IsS46.far ?_ NB704_712.out _) | exact HI704.out))) : gb723 ≠ g704)); clear HO717; clear HO720; clear HI704; clear BK712; clear HB; have HO717 := n0_; have HO720 := n1_; have HI704 := n2_; have BK712 := n3_; have HB := n4_; have BK723 := n5_; have GW723 := n6_; have GE723 := n7_; have NB712_723 := n8_; have NB723_712 := n9_; have NB704_723 := n10_; have NB723_704 := n11_; clear n0_ n1_ n2_ n3_ n4_ n5_ n6_ n7_ n8_ n9_ n10_ n11_; clear hb hbox hg; have hnb26 := NB723_712.out; have hnc26 := NB712_723.out; have hnb27 := NB723_704.out; have hnc27 := NB704_723.out; obtain ⟨hcz28_0, hcz28_1, hcz28_2⟩ := cells_3 BK723.out; obtain ⟨hfz28_0, hfz28_1, hfz28_2⟩ := froz_3 BK723.out; obtain ⟨Ao29, co29, eo29⟩ := Kd.R_slice HO717.out; subst eo29; obtain ⟨Ao30, co30, eo30⟩ := Kd.R_slice HO720.out; subst eo30))
                  (try simp only [Act.put, List.setIfInBounds_toArray, List.set_cons_zero, List.set_cons_succ])
                  go_cut [11] (fun v11 wc => ∃ (kq : Nat) (x11_19 : Bool), v11 = .bool x11_19 ∧ Aside0 (colonnadelaw07_CursorSticky.j2 kq l1 x6_2 x7_2 x8_2 x11_19 t701 t721 t722 = some r) ∧ Aside0 (kq ≤ k2) ∧ Aside0 (Kd.R (Kd.int .u8) 5 wc w.heap.size (fun _ => True) (.slice Ao29 t715.length co29) t715) ∧ Aside0 (Kd.R Kd.string 9 wc w.heap.size (fun _ => True) (.slice Ao30 t718.length co30) t718) ∧ Aside0 (wc.heap[gb712]? = some (.cells #[.int .i64 ((rd_T48 l1 x8_2).f0), .int .i64 t713, .int .i64 ((rd_T48 l1 x8_2).f2), .int .i64 ((rd_T48 l1 x8_2).f3)] 48 (0, 0))) ∧ Aside0 (wc.heap[gb723]? = some (.cells #[.int .u64 t714, (.slice Ao29 t715.length co29), (.slice Ao30 t718.length co30)] 50 (0, 0))) ∧ Aside0 (IsS46 w wc g704 t701 t721 t722) ∧ Aside0 (Below w.heap.size w wc))
                  case first =>
                    have H := HC20.out
                    clear HC20
                    by_cases c31 : t714 = 0
                    · rw [if_pos c31] at H
                      have c31b0 : (t714 == 0) = true := beq_iff_eq.mpr c31
                      have c31b1 : (t714 != 0) = false := bne_eq_false_iff_eq.mpr c31
                      clear c31
                      (first | rw [c31b0] | (simp only [i64_w, i32_w]; rw [c31b0]) | skip)
                      by_cases c32 : (t715.length : Int) = 0
                      · rw [if_pos c32] at H
                        have c32b0 : ((t715.length : Int) == 0) = true := beq_iff_eq.mpr c32
                        have c32b1 : ((t715.length : Int) != 0) = false := bne_eq_false_iff_eq.mpr c32
                        clear c32
                        have H' := Aside0.mk H
                        clear H
                        have hnb33 := NB723_712.out
                        have hnc33 := NB712_723.out
                        have hnb34 := NB723_704.out
                        have hnc34 := NB704_723.out
                        obtain ⟨hcz35_0, hcz35_1, hcz35_2⟩ := cells_3 BK723.out
                        obtain ⟨hfz35_0, hfz35_1, hfz35_2⟩ := froz_3 BK723.out
                        go_wp2
                        go_meet
                        case rel => exact ⟨_, (((t718.length : Int) == 0)), (by first | rfl | (simp; done) | (simp [*]; done)), H', ⟨by have := HJ5.out; have := HK2.out; first | omega | exact Nat.le_refl _⟩, ⟨by (with_reducible repeat (first | apply Kd.R_alloc | apply Kd.R_drewN | apply Kd.R_drew)); exact Kd.R_mono (Kd.R_far (p := ⟨gb723, 2, none⟩) (Kd.R_far (p := ⟨gb723, 1, none⟩) (Kd.R_far (p := ⟨gb723, 0, none⟩) (Kd.R_types HO717.out BK723.out (by decide)) (fun _ hk => hk.2) (.int .u64 t714)) (fun _ hk => hk.2) (.slice Ao29 t715.length co29)) (fun _ hk => hk.2) (.slice Ao30 t718.length co30)) (fun _ hk => trivial)⟩, ⟨by (with_reducible repeat (first | apply Kd.R_alloc | apply Kd.R_drewN | apply Kd.R_drew)); exact Kd.R_mono (Kd.R_far (p := ⟨gb723, 2, none⟩) (Kd.R_far (p := ⟨gb723, 1, none⟩) (Kd.R_far (p := ⟨gb723, 0, none⟩) (Kd.R_types HO720.out BK723.out (by decide)) (fun _ hk => hk.2) (.int .u64 t714)) (fun _ hk => hk.2) (.slice Ao29 t715.length co29)) (fun _ hk => hk.2) (.slice Ao30 t718.length co30)) (fun _ hk => trivial)⟩, ⟨by (with_reducible repeat (first | refine blk_drewN ?_ _ | refine blk_drew ?_ | refine blk_alloc ?_ _)); refine blk_far ?_ NB712_723.out _; (with_reducible repeat (first | refine blk_drewN ?_ _ | refine blk_drew ?_ | refine blk_alloc ?_ _)); refine blk_far ?_ NB712_723.out _; (with_reducible repeat (first | refine blk_drewN ?_ _ | refine blk_drew ?_ | refine blk_alloc ?_ _)); refine blk_far ?_ NB712_723.out _; (with_reducible repeat (first | refine blk_drewN ?_ _ | refine blk_drew ?_ | refine blk_alloc ?_ _)); exact BK712.out⟩, ⟨by (with_reducible repeat (first | refine blk_drewN ?_ _ | refine blk_drew ?_ | refine blk_alloc ?_ _)); refine blk_put (cs := #[.int .u64 t714, .slice Ao29 t715.length co29, .slice none 0 0]) ?_ 2 _ rfl; (with_reducible repeat (first | refine blk_drewN ?_ _ | refine blk_drew ?_ | refine blk_alloc ?_ _)); refine blk_put (cs := #[.int .u64 t714, .slice none 0 0, .slice none 0 0]) ?_ 1 _ rfl; (with_reducible repeat (first | refine blk_drewN ?_ _ | refine blk_drew ?_ | refine blk_alloc ?_ _)); refine blk_put (cs := #[.int .u64 0, .slice none 0 0, .slice none 0 0]) ?_ 0 _ rfl; (with_reducible repeat (first | refine blk_drewN ?_ _ | refine blk_drew ?_ | refine blk_alloc ?_ _)); exact BK723.out⟩, ⟨by repeat (first | (with_reducible first | exact HI704.out | apply IsS46.alloc | apply IsS46.drewN | apply IsS46.drew | apply IsS46.set_1 | apply IsS46.set_2 | refine IsS46.far ?_ NB704_712.out _ | refine IsS46.far ?_ NB704_723.out _) | exact HI704.out)⟩, ⟨by repeat (first | (with_reducible first | exact HB.out | apply below_alloc | apply pw_below_drewN | apply below_drew1 | refine below_set ?_ (IsS46.ge HI704.out) | refine below_set ?_ GE712.out | refine below_set ?_ GE723.out) | exact HB.out)⟩⟩
                      · rw [if_neg c32] at H
                        have c32b0 : ((t715.length : Int) == 0) = false := beq_eq_false_iff_ne.mpr c32
                        have c32b1 : ((t715.length : Int) != 0) = true := bne_iff_ne.mpr c32
                        have c32b2 : ¬ (t715 = []) := fun h_ => c32 (by rw [h_]; rfl)
                        have H' := Aside0.mk H
                        clear H
                        have hnb36 := NB723_712.out
                        have hnc36 := NB712_723.out
                        have hnb37 := NB723_704.out
                        have hnc37 := NB704_723.out
                        obtain ⟨hcz38_0, hcz38_1, hcz38_2⟩ := cells_3 BK723.out
                        obtain ⟨hfz38_0, hfz38_1, hfz38_2⟩ := froz_3 BK723.out
                        go_wp2
                        go_meet
                        case rel => exact ⟨_, (false), (by first | rfl | (simp; done) | (simp [*]; done)), H', ⟨by have := HJ5.out; have := HK2.out; first | omega | exact Nat.le_refl _⟩, ⟨by (with_reducible repeat (first | apply Kd.R_alloc | apply Kd.R_drewN | apply Kd.R_drew)); exact Kd.R_mono (Kd.R_far (p := ⟨gb723, 2, none⟩) (Kd.R_far (p := ⟨gb723, 1, none⟩) (Kd.R_far (p := ⟨gb723, 0, none⟩) (Kd.R_types HO717.out BK723.out (by decide)) (fun _ hk => hk.2) (.int .u64 t714)) (fun _ hk => hk.2) (.slice Ao29 t715.length co29)) (fun _ hk => hk.2) (.slice Ao30 t718.length co30)) (fun _ hk => trivial)⟩, ⟨by (with_reducible repeat (first | apply Kd.R_alloc | apply Kd.R_drewN | apply Kd.R_drew)); exact Kd.R_mono (Kd.R_far (p := ⟨gb723, 2, none⟩) (Kd.R_far (p := ⟨gb723, 1, none⟩) (Kd.R_far (p := ⟨gb723, 0, none⟩) (Kd.R_types HO720.out BK723.out (by decide)) (fun _ hk => hk.2) (.int .u64 t714)) (fun _ hk => hk.2) (.slice Ao29 t715.length co29)) (fun _ hk => hk.2) (.slice Ao30 t718.length co30)) (fun _ hk => trivial)⟩, ⟨by (with_reducible repeat (first | refine blk_drewN ?_ _ | refine blk_drew ?_ | refine blk_alloc ?_ _)); refine blk_far ?_ NB712_723.out _; (with_reducible repeat (first | refine blk_drewN ?_ _ | refine blk_drew ?_ | refine blk_alloc ?_ _)); refine blk_far ?_ NB712_723.out _; (with_reducible repeat (first | refine blk_drewN ?_ _ | refine blk_drew ?_ | refine blk_alloc ?_ _)); refine blk_far ?_ NB712_723.out _; (with_reducible repeat (first | refine blk_drewN ?_ _ | refine blk_drew ?_ | refine blk_alloc ?_ _)); exact BK712.out⟩, ⟨by (with_reducible repeat (first | refine blk_drewN ?_ _ | refine blk_drew ?_ | refine blk_alloc ?_ _)); refine blk_put (cs := #[.int .u64 t714, .slice Ao29 t715.length co29, .slice none 0 0]) ?_ 2 _ rfl; (with_reducible repeat (first | refine blk_drewN ?_ _ | refine blk_drew ?_ | refine blk_alloc ?_ _)); refine blk_put (cs := #[.int .u64 t714, .slice none 0 0, .slice none 0 0]) ?_ 1 _ rfl; (with_reducible repeat (first | refine blk_drewN ?_ _ | refine blk_drew ?_ | refine blk_alloc ?_ _)); refine blk_put (cs := #[.int .u64 0, .slice none 0 0, .slice none 0 0]) ?_ 0 _ rfl; (with_reducible repeat (first | refine blk_drewN ?_ _ | refine blk_drew ?_ | refine blk_alloc ?_ _)); exact BK723.out⟩, ⟨by repeat (first | (with_reducible first | exact HI704.out | apply IsS46.alloc | apply IsS46.drewN | apply IsS46.drew | apply IsS46.set_1 | apply IsS46.set_2 | refine IsS46.far ?_ NB704_712.out _ | refine IsS46.far ?_ NB704_723.out _) | exact HI704.out)⟩, ⟨by repeat (first | (with_reducible first | exact HB.out | apply below_alloc | apply pw_below_drewN | apply below_drew1 | refine below_set ?_ (IsS46.ge HI704.out) | refine below_set ?_ GE712.out | refine below_set ?_ GE723.out) | exact HB.out)⟩⟩
                    · rw [if_neg c31] at H
                      have c31b0 : (t714 == 0) = false := beq_eq_false_iff_ne.mpr c31
                      have c31b1 : (t714 != 0) = true := bne_iff_ne.mpr c31
                      (first | rw [c31b0] | (simp only [i64_w, i32_w]; rw [c31b0]) | skip)
                      have H' := Aside0.mk H
                      clear H
                      have hnb39 := NB723_712.out
                      have hnc39 := NB712_723.out
                      have hnb40 := NB723_704.out
                      have hnc40 := NB704_723.out
                      obtain ⟨hcz41_0, hcz41_1, hcz41_2⟩ := cells_3 BK723.out
                      obtain ⟨hfz41_0, hfz41_1, hfz41_2⟩ := froz_3 BK723.out
                      go_wp2
                      go_meet
                      case rel => exact ⟨_, (false), (by first | rfl | (simp; done) | (simp [*]; done)), H', ⟨by have := HJ5.out; have := HK2.out; first | omega | exact Nat.le_refl _⟩, ⟨by (with_reducible repeat (first | apply Kd.R_alloc | apply Kd.R_drewN | apply Kd.R_drew)); exact Kd.R_mono (Kd.R_far (p := ⟨gb723, 2, none⟩) (Kd.R_far (p := ⟨gb723, 1, none⟩) (Kd.R_far (p := ⟨gb723, 0, none⟩) (Kd.R_types HO717.out BK723.out (by decide)) (fun _ hk => hk.2) (.int .u64 t714)) (fun _ hk => hk.2) (.slice Ao29 t715.length co29)) (fun _ hk => hk.2) (.slice Ao30 t718.length co30)) (fun _ hk => trivial)⟩, ⟨by (with_reducible repeat (first | apply Kd.R_alloc | apply Kd.R_drewN | apply Kd.R_drew)); exact Kd.R_mono (Kd.R_far (p := ⟨gb723, 2, none⟩) (Kd.R_far (p := ⟨gb723, 1, none⟩) (Kd.R_far (p := ⟨gb723, 0, none⟩) (Kd.R_types HO720.out BK723.out (by decide)) (fun _ hk => hk.2) (.int .u64 t714)) (fun _ hk => hk.2) (.slice Ao29 t715.length co29)) (fun _ hk => hk.2) (.slice Ao30 t718.length co30)) (fun _ hk => trivial)⟩, ⟨by (with_reducible repeat (first | refine blk_drewN ?_ _ | refine blk_drew ?_ | refine blk_alloc ?_ _)); refine blk_far ?_ NB712_723.out _; (with_reducible repeat (first | refine blk_drewN ?_ _ | refine blk_drew ?_ | refine blk_alloc ?_ _)); refine blk_far ?_ NB712_723.out _; (with_reducible repeat (first | refine blk_drewN ?_ _ | refine blk_drew ?_ | refine blk_alloc ?_ _)); refine blk_far ?_ NB712_723.out _; (with_reducible repeat (first | refine blk_drewN ?_ _ | refine blk_drew ?_ | refine blk_alloc ?_ _)); exact BK712.out⟩, ⟨by (with_reducible repeat (first | refine blk_drewN ?_ _ | refine blk_drew ?_ | refine blk_alloc ?_ _)); refine blk_put (cs := #[.int .u64 t714, .slice Ao29 t715.length co29, .slice none 0 0]) ?_ 2 _ rfl; (with_reducible repeat (first | refine blk_drewN ?_ _ | refine blk_drew ?_ | refine blk_alloc ?_ _)); refine blk_put (cs := #[.int .u64 t714, .slice none 0 0, .slice none 0 0]) ?_ 1 _ rfl; (with_reducible repeat (first | refine blk_drewN ?_ _ | refine blk_drew ?_ | refine blk_alloc ?_ _)); refine blk_put (cs := #[.int .u64 0, .slice none 0 0, .slice none 0 0]) ?_ 0 _ rfl; (with_reducible repeat (first | refine blk_drewN ?_ _ | refine blk_drew ?_ | refine blk_alloc ?_ _)); exact BK723.out⟩, ⟨by repeat (first | (with_reducible first | exact HI704.out | apply IsS46.alloc | apply IsS46.drewN | apply IsS46.drew | apply IsS46.set_1 | apply IsS46.set_2 | refine IsS46.far ?_ NB704_712.out _ | refine IsS46.far ?_ NB704_723.out _) | exact HI704.out)⟩, ⟨by repeat (first | (with_reducible first | exact HB.out | apply below_alloc | apply pw_below_drewN | apply below_drew1 | refine below_set ?_ (IsS46.ge HI704.out) | refine below_set ?_ GE712.out | refine below_set ?_ GE723.out) | exact HB.out)⟩⟩
                  case rest =>
                    clear HC20
                    try clear c1
                    try clear c2
                    try clear p2
                    try clear c3
                    try clear c4
                    try clear p7
                    try clear q7
                    try clear hx7
                    try clear c8
                    try clear c10
                    try clear c10b0
                    try clear c10b1
                    try clear c15
                    try clear c16
                    try clear c16b0
                    try clear c17
                    try clear c17b0
                    try clear c20
                    try clear c21
                    try clear c22
                    try clear c23
                    try clear c26
                    try clear c27
                    try clear c31
                    try clear c31b0
                    try clear c31b1
                    try clear c32
                    try clear c32b0
                    try clear c32b1
                    try clear c32b2
                    try clear c33
                    try clear c34
                    try clear c36
                    try clear c37
                    try clear c39
                    try clear c40
                    try clear hcz23_0
                    try clear hcz23_1
                    try clear hcz23_2
                    try clear hcz23_3
                    try clear hcz28_0
                    try clear hcz28_1
                    try clear hcz28_2
                    try clear hcz35_0
                    try clear hcz35_1
                    try clear hcz35_2
                    try clear hcz38_0
                    try clear hcz38_1
                    try clear hcz38_2
                    try clear hcz41_0
                    try clear hcz41_1
                    try clear hcz41_2
                    try clear hfz23_0
                    try clear hfz23_1
                    try clear hfz23_2
                    try clear hfz23_3
                    try clear hfz28_0
                    try clear hfz28_1
                    try clear hfz28_2
                    try clear hfz35_0
                    try clear hfz35_1
                    try clear hfz35_2
                    try clear hfz38_0
                    try clear hfz38_1
                    try clear hfz38_2
                    try clear hfz41_0
                    try clear hfz41_1
                    try clear hfz41_2
                    try clear hx711_0
                    try clear hx711_1
                    try clear hx711_2
                    try clear hx711_3
                    try clear p2
                    try clear p711
                    try clear q711
                    obtain ⟨kq, x11_19, rfl, HA, HJ19, HO_724001, HO_724002, BK712, BK723, HI704, HB⟩ := hcut
                    cases kq with
                    | zero => exact absurd HA.out (by simp [colonnadelaw07_CursorSticky.j2])
                    | succ kj19 =>
                      have H := HA.out
                      clear HA
                      simp only [colonnadelaw07_CursorSticky.j2] at H
                      have HC42 := Aside0.mk H
                      clear H
                      go_upto_region 15 with (fail)
                      go_cut [83] (fun v83 wc => ∃ (kq : Nat) (x83_41 : Bool) (x705001_41 : Int) (x705002_41 : Int), v83 = .bool x83_41 ∧ Aside0 (colonnadelaw07_CursorSticky.j3 kq l1 x6_2 x7_2 x8_2 x11_19 x83_41 t701 x705001_41 x705002_41 = some r) ∧ Aside0 (kq ≤ kj19) ∧ Aside0 (Kd.R (Kd.int .u8) 5 wc w.heap.size (fun _ => True) (.slice Ao29 t715.length co29) t715) ∧ Aside0 (Kd.R Kd.string 9 wc w.heap.size (fun _ => True) (.slice Ao30 t718.length co30) t718) ∧ Aside0 (wc.heap[gb712]? = some (.cells #[.int .i64 ((rd_T48 l1 x8_2).f0), .int .i64 t713, .int .i64 ((rd_T48 l1 x8_2).f2), .int .i64 ((rd_T48 l1 x8_2).f3)] 48 (0, 0))) ∧ Aside0 (wc.heap[gb723]? = some (.cells #[.int .u64 t714, (.slice Ao29 t715.length co29), (.slice Ao30 t718.length co30)] 50 (0, 0))) ∧ Aside0 (IsS46 w wc g704 t701 x705001_41 x705002_41) ∧ Aside0 (Below w.heap.size w wc))
                      case first =>
                        have H := HC42.out
                        clear HC42
                        by_cases c43 : x7_2 = 0
                        · rw [if_pos c43] at H
                          have c43b0 : (x7_2 == 0) = true := beq_iff_eq.mpr c43
                          have c43b1 : (x7_2 != 0) = false := bne_eq_false_iff_eq.mpr c43
                          clear c43
                          (first | rw [c43b0] | (simp only [i64_w, i32_w]; rw [c43b0]) | skip)
                          have H' := Aside0.mk H
                          clear H
                          go_wp2
                          go_meet
                          case rel => exact ⟨_, (false), (t721), (t722), (by first | rfl | (simp; done) | (simp [*]; done)), H', ⟨by have := HJ5.out; have := HK2.out; have := HJ19.out; first | omega | exact Nat.le_refl _⟩, ⟨by (with_reducible repeat (first | apply Kd.R_alloc | apply Kd.R_drewN | apply Kd.R_drew)); exact HO_724001.out⟩, ⟨by (with_reducible repeat (first | apply Kd.R_alloc | apply Kd.R_drewN | apply Kd.R_drew)); exact HO_724002.out⟩, ⟨by (with_reducible repeat (first | refine blk_drewN ?_ _ | refine blk_drew ?_ | refine blk_alloc ?_ _)); exact BK712.out⟩, ⟨by (with_reducible repeat (first | refine blk_drewN ?_ _ | refine blk_drew ?_ | refine blk_alloc ?_ _)); exact BK723.out⟩, ⟨by repeat (first | (with_reducible first | exact HI704.out | apply IsS46.alloc | apply IsS46.drewN | apply IsS46.drew | apply IsS46.set_1 | apply IsS46.set_2 | refine IsS46.far ?_ NB704_712.out _ | refine IsS46.far ?_ NB704_723.out _) | exact HI704.out)⟩, ⟨by repeat (first | (with_reducible first | exact HB.out | apply below_alloc | apply pw_below_drewN | apply below_drew1 | refine below_set ?_ (IsS46.ge HI704.out) | refine below_set ?_ GE712.out | refine below_set ?_ GE723.out) | exact HB.out)⟩⟩
                        · rw [if_neg c43] at H
                          have c43b0 : (x7_2 == 0) = false := beq_eq_false_iff_ne.mpr c43
                          have c43b1 : (x7_2 != 0) = true := bne_iff_ne.mpr c43
                          (first | rw [c43b0] | (simp only [i64_w, i32_w]; rw [c43b0]) | skip)
                          by_cases c44 : x11_19 = true
                          · subst c44
                            have H1 : ((cursor_Reader_Fault.f t701 t721 t722).bind fun bt724 => (if bt724.1 = x7_2 then ((cursor_Reader_Left.f t701 bt724.2.1 bt724.2.2).bind fun bt727 => (if bt727.1 = x6_2 then ((cursor_Reader_End.f t701 bt727.2.1 bt727.2.2).bind fun bt730 => (colonnadelaw07_CursorSticky.j3 kj19 l1 x6_2 x7_2 x8_2 true (bt730.1 != x7_2) t701 bt730.2.1 bt730.2.2)) else (colonnadelaw07_CursorSticky.j3 kj19 l1 x6_2 x7_2 x8_2 true true t701 bt727.2.1 bt727.2.2))) else (colonnadelaw07_CursorSticky.j3 kj19 l1 x6_2 x7_2 x8_2 true true t701 bt724.2.1 bt724.2.2))) = some r := by rw [if_pos rfl] at H; exact H
                            clear H
                            have H := H1
                            clear H1
                            replace H := Option.bind_eq_some_iff.mp H
                            obtain ⟨⟨t724, t725, t726⟩, A450, H⟩ := H
                            replace H : (if t724 = x7_2 then ((cursor_Reader_Left.f t701 t725 t726).bind fun bt727 => (if bt727.1 = x6_2 then ((cursor_Reader_End.f t701 bt727.2.1 bt727.2.2).bind fun bt730 => (colonnadelaw07_CursorSticky.j3 kj19 l1 x6_2 x7_2 x8_2 true (bt730.1 != x7_2) t701 bt730.2.1 bt730.2.2)) else (colonnadelaw07_CursorSticky.j3 kj19 l1 x6_2 x7_2 x8_2 true true t701 bt727.2.1 bt727.2.2))) else (colonnadelaw07_CursorSticky.j3 kj19 l1 x6_2 x7_2 x8_2 true true t701 t725 t726)) = some r := H
                            have A45 := Aside0.mk A450
                            clear A450
                            by_cases c46 : t724 = x7_2
                            · rw [if_pos c46] at H
                              have c46b0 : (t724 == x7_2) = true := beq_iff_eq.mpr c46
                              have c46b1 : (t724 != x7_2) = false := bne_eq_false_iff_eq.mpr c46
                              clear c46
                              replace H := Option.bind_eq_some_iff.mp H
                              obtain ⟨⟨t727, t728, t729⟩, A470, H⟩ := H
                              replace H : (if t727 = x6_2 then ((cursor_Reader_End.f t701 t728 t729).bind fun bt730 => (colonnadelaw07_CursorSticky.j3 kj19 l1 x6_2 x7_2 x8_2 true (bt730.1 != x7_2) t701 bt730.2.1 bt730.2.2)) else (colonnadelaw07_CursorSticky.j3 kj19 l1 x6_2 x7_2 x8_2 true true t701 t728 t729)) = some r := H
                              have A47 := Aside0.mk A470
                              clear A470
                              by_cases c48 : t727 = x6_2
                              · rw [if_pos c48] at H
                                have c48b0 : (t727 == x6_2) = true := beq_iff_eq.mpr c48
                                have c48b1 : (t727 != x6_2) = false := bne_eq_false_iff_eq.mpr c48
                                clear c48
                                replace H := Option.bind_eq_some_iff.mp H
                                obtain ⟨⟨t730, t731, t732⟩, A490, H⟩ := H
                                replace H : (colonnadelaw07_CursorSticky.j3 kj19 l1 x6_2 x7_2 x8_2 true (t730 != x7_2) t701 t731 t732) = some r := H
                                have A49 := Aside0.mk A490
                                clear A490
                                have H' := Aside0.mk H
                                clear H
                                go_wp2_with (first | (go_at_call 43; (with_reducible refine (cursor_Reader_Fault.calls g704 t701 t721 t722 t724 t725 t726 w _ ?side1 ?side2 A45.out).mono ?_); (case side1 => repeat (first | (with_reducible first | exact HI704.out | apply IsS46.alloc | apply IsS46.drewN | apply IsS46.drew | apply IsS46.set_1 | apply IsS46.set_2 | refine IsS46.far ?_ NB704_712.out _ | refine IsS46.far ?_ NB704_723.out _) | exact HI704.out)); (case side2 => repeat (first | (with_reducible first | exact HB.out | apply below_alloc | apply pw_below_drewN | apply below_drew1 | refine below_set ?_ (IsS46.ge HI704.out) | refine below_set ?_ GE712.out | refine below_set ?_ GE723.out) | exact HB.out)); rintro e w50 ⟨rfl, hi, hb, hk⟩; (try clear A45); have n0_ := Aside0.mk (Kd.R_mono (Kd.R_keep (IsS46.apart (show IsS46 w _ g704 t701 t721 t722 from by repeat (first | (with_reducible first | exact HI704.out | apply IsS46.alloc | apply IsS46.drewN | apply IsS46.drew | apply IsS46.set_1 | apply IsS46.set_2 | refine IsS46.far ?_ NB704_712.out _ | refine IsS46.far ?_ NB704_723.out _) | exact HI704.out)) (by (with_reducible repeat (first | apply Kd.R_alloc | apply Kd.R_drewN | apply Kd.R_drew)); exact HO_724001.out) (by decide)) hk (fun _ h => h.2)) (fun _ h => h.1)); have n1_ := Aside0.mk (Kd.R_mono (Kd.R_keep (IsS46.apart (show IsS46 w _ g704 t701 t721 t722 from by repeat (first | (with_reducible first | exact HI704.out | apply IsS46.alloc | apply IsS46.drewN | apply IsS46.drew | apply IsS46.set_1 | apply IsS46.set_2 | refine IsS46.far ?_ NB704_712.out _ | refine IsS46.far ?_ NB704_723.out _) | exact HI704.out)) (by (with_reducible repeat (first | apply Kd.R_alloc | apply Kd.R_drewN | apply Kd.R_drew)); exact HO_724002.out) (by decide)) hk (fun _ h => h.2)) (fun _ h => h.1)); have n2_ := Aside0.mk (KeepBut.blk hk (g' := gb712) (o := .cells #[.int .i64 ((rd_T48 l1 x8_2).f0), .int .i64 t713, .int .i64 ((rd_T48 l1 x8_2).f2), .int .i64 ((rd_T48 l1 x8_2).f3)] 48 (0, 0)) (by (with_reducible repeat (first | refine blk_drewN ?_ _ | refine blk_drew ?_ | refine blk_alloc ?_ _)); exact BK712.out) NB712_704.out (by simp)); have n3_ := Aside0.mk (KeepBut.blk hk (g' := gb723) (o := .cells #[.int .u64 t714, .slice Ao29 t715.length co29, .slice Ao30 t718.length co30] 50 (0, 0)) (by (with_reducible repeat (first | refine blk_drewN ?_ _ | refine blk_drew ?_ | refine blk_alloc ?_ _)); exact BK723.out) NB723_704.out (by simp)); have n4_ := Aside0.mk (hb); have n5_ := Aside0.mk (hi); clear HO_724001; clear HO_724002; clear BK712; clear BK723; clear HB; clear HI704; have HO_724001 := n0_; have HO_724002 := n1_; have BK712 := n2_; have BK723 := n3_; have HB := n4_; have HI704 := n5_; clear n0_ n1_ n2_ n3_ n4_ n5_; (try clear hb); (try clear hb2); (try clear hk); (try clear hi)) | (go_at_call 42; (with_reducible refine (cursor_Reader_Left.calls g704 t701 t725 t726 t727 t728 t729 w _ ?side1 ?side2 A47.out).mono ?_); (case side1 => repeat (first | (with_reducible first | exact HI704.out | apply IsS46.alloc | apply IsS46.drewN | apply IsS46.drew | apply IsS46.set_1 | apply IsS46.set_2 | refine IsS46.far ?_ NB704_712.out _ | refine IsS46.far ?_ NB704_723.out _) | exact HI704.out)); (case side2 => repeat (first | (with_reducible first | exact HB.out | apply below_alloc | apply pw_below_drewN | apply below_drew1 | refine below_set ?_ (IsS46.ge HI704.out) | refine below_set ?_ GE712.out | refine below_set ?_ GE723.out) | exact HB.out)); rintro e w51 ⟨rfl, hi, hb, hk⟩; (try clear A47); have n0_ := Aside0.mk (Kd.R_mono (Kd.R_keep (IsS46.apart (show IsS46 w _ g704 t701 t725 t726 from by repeat (first | (with_reducible first | exact HI704.out | apply IsS46.alloc | apply IsS46.drewN | apply IsS46.drew | apply IsS46.set_1 | apply IsS46.set_2 | refine IsS46.far ?_ NB704_712.out _ | refine IsS46.far ?_ NB704_723.out _) | exact HI704.out)) (by (with_reducible repeat (first | apply Kd.R_alloc | apply Kd.R_drewN | apply Kd.R_drew)); exact HO_724001.out) (by decide)) hk (fun _ h => h.2)) (fun _ h => h.1)); have n1_ := Aside0.mk (Kd.R_mono (Kd.R_keep (IsS46.apart (show IsS46 w _ g704 t701 t725 t726 from by repeat (first | (with_reducible first | exact HI704.out | apply IsS46.alloc | apply IsS46.drewN | apply IsS46.drew | apply IsS46.set_1 | apply IsS46.set_2 | refine IsS46.far ?_ NB704_712.out _ | refine IsS46.far ?_ NB704_723.out _) | exact HI704.out)) (by (with_reducible repeat (first | apply Kd.R_alloc | apply Kd.R_drewN | apply Kd.R_drew)); exact HO_724002.out) (by decide)) hk (fun _ h => h.2)) (fun _ h => h.1)); have n2_ := Aside0.mk (KeepBut.blk hk (g' := gb712) (o := .cells #[.int .i64 ((rd_T48 l1 x8_2).f0), .int .i64 t713, .int .i64 ((rd_T48 l1 x8_2).f2), .int .i64 ((rd_T48 l1 x8_2).f3)] 48 (0, 0)) (by (with_reducible repeat (first | refine blk_drewN ?_ _ | refine blk_drew ?_ | refine blk_alloc ?_ _)); exact BK712.out) NB712_704.out (by simp)); have n3_ := Aside0.mk (KeepBut.blk hk (g' := gb723) (o := .cells #[.int .u64 t714, .slice Ao29 t715.length co29, .slice Ao30 t718.length co30] 50 (0, 0)) (by (with_reducible repeat (first | refine blk_drewN ?_ _ | refine blk_drew ?_ | refine blk_alloc ?_ _)); exact BK723.out) NB723_704.out (by simp)); have n4_ := Aside0.mk (hb); have n5_ := Aside0.mk (hi); clear HO_724001; clear HO_724002; clear BK712; clear BK723; clear HB; clear HI704; have HO_724001 := n0_; have HO_724002 := n1_; have BK712 := n2_; have BK723 := n3_; have HB := n4_; have HI704 := n5_; clear n0_ n1_ n2_ n3_ n4_ n5_; (try clear hb); (try clear hb2); (try clear hk); (try clear hi)) | (go_at_call 37; (with_reducible refine (cursor_Reader_End.calls g704 t701 t728 t729 t730 t731 t732 w _ ?side1 ?side2 A49.out).mono ?_); (case side1 => repeat (first | (with_reducible first | exact HI704.out | apply IsS46.alloc | apply IsS46.drewN | apply IsS46.drew | apply IsS46.set_1 | apply IsS46.set_2 | refine IsS46.far ?_ NB704_712.out _ | refine IsS46.far ?_ NB704_723.out _) | exact HI704.out)); (case side2 => repeat (first | (with_reducible first | exact HB.out | apply below_alloc | apply pw_below_drewN | apply below_drew1 | refine below_set ?_ (IsS46.ge HI704.out) | refine below_set ?_ GE712.out | refine below_set ?_ GE723.out) | exact HB.out)); rintro e w52 ⟨rfl, hi, hb, hk⟩; (try clear A49); have n0_ := Aside0.mk (Kd.R_mono (Kd.R_keep (IsS46.apart (show IsS46 w _ g704 t701 t728 t729 from by repeat (first | (with_reducible first | exact HI704.out | apply IsS46.alloc | apply IsS46.drewN | apply IsS46.drew | apply IsS46.set_1 | apply IsS46.set_2 | refine IsS46.far ?_ NB704_712.out _ | refine IsS46.far ?_ NB704_723.out _) | exact HI704.out)) (by (with_reducible repeat (first | apply Kd.R_alloc | apply Kd.R_drewN | apply Kd.R_drew)); exact HO_724001.out) (by decide)) hk (fun _ h => h.2)) (fun _ h => h.1)); have n1_ := Aside0.mk (Kd.R_mono (Kd.R_keep (IsS46.apart (show IsS46 w _ g704 t701 t728 t729 from by repeat (first | (with_reducible first | exact HI704.out | apply IsS46.alloc | apply IsS46.drewN | apply IsS46.drew | apply IsS46.set_1 | apply IsS46.set_2 | refine IsS46.far ?_ NB704_712.out _ | refine IsS46.far ?_ NB704_723.out _) | exact HI704.out)) (by (with_reducible repeat (first | apply Kd.R_alloc | apply Kd.R_drewN | apply Kd.R_drew)); exact HO_724002.out) (by decide)) hk (fun _ h => h.2)) (fun _ h => h.1)); have n2_ := Aside0.mk (KeepBut.blk hk (g' := gb712) (o := .cells #[.int .i64 ((rd_T48 l1 x8_2).f0), .int .i64 t713, .int .i64 ((rd_T48 l1 x8_2).f2), .int .i64 ((rd_T48 l1 x8_2).f3)] 48 (0, 0)) (by (with_reducible repeat (first | refine blk_drewN ?_ _ | refine blk_drew ?_ | refine blk_alloc ?_ _)); exact BK712.out) NB712_704.out (by simp)); have n3_ := Aside0.mk (KeepBut.blk hk (g' := gb723) (o := .cells #[.int .u64 t714, .slice Ao29 t715.length co29, .slice Ao30 t718.length co30] 50 (0, 0)) (by (with_reducible repeat (first | refine blk_drewN ?_ _ | refine blk_drew ?_ | refine blk_alloc ?_ _)); exact BK723.out) NB723_704.out (by simp)); have n4_ := Aside0.mk (hb); have n5_ := Aside0.mk (hi); clear HO_724001; clear HO_724002; clear BK712; clear BK723; clear HB; clear HI704; have HO_724001 := n0_; have HO_724002 := n1_; have BK712 := n2_; have BK723 := n3_; have HB := n4_; have HI704 := n5_; clear n0_ n1_ n2_ n3_ n4_ n5_; (try clear hb); (try clear hb2); (try clear hk); (try clear hi)))
                                go_meet
                                case rel => exact ⟨_, ((t730 != x7_2)), (t731), (t732), (by first | rfl | (simp; done) | (simp [*]; done)), H', ⟨by have := HJ5.out; have := HK2.out; have := HJ19.out; first | omega | exact Nat.le_refl _⟩, ⟨by (with_reducible repeat (first | apply Kd.R_alloc | apply Kd.R_drewN | apply Kd.R_drew)); exact HO_724001.out⟩, ⟨by (with_reducible repeat (first | apply Kd.R_alloc | apply Kd.R_drewN | apply Kd.R_drew)); exact HO_724002.out⟩, ⟨by (with_reducible repeat (first | refine blk_drewN ?_ _ | refine blk_drew ?_ | refine blk_alloc ?_ _)); exact BK712.out⟩, ⟨by (with_reducible repeat (first | refine blk_drewN ?_ _ | refine blk_drew ?_ | refine blk_alloc ?_ _)); exact BK723.out⟩, ⟨by repeat (first | (with_reducible first | exact HI704.out | apply IsS46.alloc | apply IsS46.drewN | apply IsS46.drew | apply IsS46.set_1 | apply IsS46.set_2 | refine IsS46.far ?_ NB704_712.out _ | refine IsS46.far ?_ NB704_723.out _) | exact HI704.out)⟩, ⟨by repeat (first | (with_reducible first | exact HB.out | apply below_alloc | apply pw_below_drewN | apply below_drew1 | refine below_set ?_ (IsS46.ge HI704.out) | refine below_set ?_ GE712.out | refine below_set ?_ GE723.out) | exact HB.out)⟩⟩
                              · rw [if_neg c48] at H
                                exact absurd ((colonnadelaw07_CursorSticky.j3_dead H).trans htrue.out) (by decide)
                            · rw [if_neg c46] at H
                              exact absurd ((colonnadelaw07_CursorSticky.j3_dead H).trans htrue.out) (by decide)
                          · replace c44 := Bool.eq_false_iff.mpr c44
                            subst c44
                            have H1 : (colonnadelaw07_CursorSticky.j3 kj19 l1 x6_2 x7_2 x8_2 false true t701 t721 t722) = some r := by rw [if_neg (show ¬ (false = true) by decide)] at H; exact H
                            exact absurd ((colonnadelaw07_CursorSticky.j3_dead H1).trans htrue.out) (by decide)
                      case rest =>
                        clear HC42
                        try clear c1
                        try clear c2
                        try clear p2
                        try clear c3
                        try clear c4
                        try clear p7
                        try clear q7
                        try clear hx7
                        try clear c8
                        try clear c10
                        try clear c10b0
                        try clear c10b1
                        try clear c15
                        try clear c16
                        try clear c16b0
                        try clear c17
                        try clear c17b0
                        try clear c20
                        try clear c21
                        try clear c22
                        try clear c23
                        try clear c26
                        try clear c27
                        try clear c31
                        try clear c31b0
                        try clear c31b1
                        try clear c32
                        try clear c32b0
                        try clear c32b1
                        try clear c32b2
                        try clear c33
                        try clear c34
                        try clear c36
                        try clear c37
                        try clear c39
                        try clear c40
                        try clear c42
                        try clear c43
                        try clear c43b0
                        try clear c43b1
                        try clear c44
                        try clear c46
                        try clear c46b0
                        try clear c46b1
                        try clear c48
                        try clear c48b0
                        try clear c48b1
                        try clear hcz23_0
                        try clear hcz23_1
                        try clear hcz23_2
                        try clear hcz23_3
                        try clear hcz28_0
                        try clear hcz28_1
                        try clear hcz28_2
                        try clear hcz35_0
                        try clear hcz35_1
                        try clear hcz35_2
                        try clear hcz38_0
                        try clear hcz38_1
                        try clear hcz38_2
                        try clear hcz41_0
                        try clear hcz41_1
                        try clear hcz41_2
                        try clear hfz23_0
                        try clear hfz23_1
                        try clear hfz23_2
                        try clear hfz23_3
                        try clear hfz28_0
                        try clear hfz28_1
                        try clear hfz28_2
                        try clear hfz35_0
                        try clear hfz35_1
                        try clear hfz35_2
                        try clear hfz38_0
                        try clear hfz38_1
                        try clear hfz38_2
                        try clear hfz41_0
                        try clear hfz41_1
                        try clear hfz41_2
                        try clear hx711_0
                        try clear hx711_1
                        try clear hx711_2
                        try clear hx711_3
                        try clear p2
                        try clear p7
                        try clear p711
                        try clear q7
                        try clear q711
                        obtain ⟨kq, x83_41, x705001_41, x705002_41, rfl, HA, HJ41, HO_724001, HO_724002, BK712, BK723, HI704, HB⟩ := hcut
                        cases kq with
                        | zero => exact absurd HA.out (by simp [colonnadelaw07_CursorSticky.j3])
                        | succ kj41 =>
                          have H := HA.out
                          clear HA
                          simp only [colonnadelaw07_CursorSticky.j3] at H
                          by_cases c56 : x83_41 = true
                          · subst c56
                            have H1 : (some false) = some r := by rw [if_pos rfl] at H; exact H
                            exact absurd ((Option.some.inj H1).trans htrue.out) (by decide)
                          · replace c56 := Bool.eq_false_iff.mpr c56
                            subst c56
                            have H1 : (if x7_2 = 0 then ((cursor_Reader_Fault.f t701 x705001_41 x705002_41).bind fun bt733 => (if bt733.1 = 0 then (colonnadelaw07_CursorSticky.j4 kj41 l1 x6_2 x8_2 false t701 bt733.2.1 bt733.2.2) else (if x11_19 = true then ((cursor_Reader_Left.f t701 bt733.2.1 bt733.2.2).bind fun bt736 => (colonnadelaw07_CursorSticky.j4 kj41 l1 x6_2 x8_2 (bt736.1 != x6_2) t701 bt736.2.1 bt736.2.2)) else (colonnadelaw07_CursorSticky.j4 kj41 l1 x6_2 x8_2 true t701 bt733.2.1 bt733.2.2)))) else (colonnadelaw07_CursorSticky.j4 kj41 l1 x6_2 x8_2 false t701 x705001_41 x705002_41)) = some r := by rw [if_neg (show ¬ (false = true) by decide)] at H; exact H
                            clear H
                            have H := H1
                            clear H1
                            have HC57 := Aside0.mk H
                            clear H
                            go_upto_region 17 with (fail)
                            go_cut [100] (fun v100 wc => ∃ (kq : Nat) (x100_56 : Bool) (x705001_56 : Int) (x705002_56 : Int), v100 = .bool x100_56 ∧ Aside0 (colonnadelaw07_CursorSticky.j4 kq l1 x6_2 x8_2 x100_56 t701 x705001_56 x705002_56 = some r) ∧ Aside0 (kq ≤ kj41) ∧ Aside0 (Kd.R (Kd.int .u8) 5 wc w.heap.size (fun _ => True) (.slice Ao29 t715.length co29) t715) ∧ Aside0 (Kd.R Kd.string 9 wc w.heap.size (fun _ => True) (.slice Ao30 t718.length co30) t718) ∧ Aside0 (wc.heap[gb712]? = some (.cells #[.int .i64 ((rd_T48 l1 x8_2).f0), .int .i64 t713, .int .i64 ((rd_T48 l1 x8_2).f2), .int .i64 ((rd_T48 l1 x8_2).f3)] 48 (0, 0))) ∧ Aside0 (wc.heap[gb723]? = some (.cells #[.int .u64 t714, (.slice Ao29 t715.length co29), (.slice Ao30 t718.length co30)] 50 (0, 0))) ∧ Aside0 (IsS46 w wc g704 t701 x705001_56 x705002_56) ∧ Aside0 (Below w.heap.size w wc))
                            case first =>
                              have H := HC57.out
                              clear HC57
                              by_cases c58 : x7_2 = 0
                              · rw [if_pos c58] at H
                                have c58b0 : (x7_2 == 0) = true := beq_iff_eq.mpr c58
                                have c58b1 : (x7_2 != 0) = false := bne_eq_false_iff_eq.mpr c58
                                clear c58
                                (first | rw [c58b0] | (simp only [i64_w, i32_w]; rw [c58b0]) | skip)
                                replace H := Option.bind_eq_some_iff.mp H
                                obtain ⟨⟨t733, t734, t735⟩, A590, H⟩ := H
                                replace H : (if t733 = 0 then (colonnadelaw07_CursorSticky.j4 kj41 l1 x6_2 x8_2 false t701 t734 t735) else (if x11_19 = true then ((cursor_Reader_Left.f t701 t734 t735).bind fun bt736 => (colonnadelaw07_CursorSticky.j4 kj41 l1 x6_2 x8_2 (bt736.1 != x6_2) t701 bt736.2.1 bt736.2.2)) else (colonnadelaw07_CursorSticky.j4 kj41 l1 x6_2 x8_2 true t701 t734 t735))) = some r := H
                                have A59 := Aside0.mk A590
                                clear A590
                                by_cases c60 : t733 = 0
                                · rw [if_pos c60] at H
                                  have c60b0 : (t733 == 0) = true := beq_iff_eq.mpr c60
                                  have c60b1 : (t733 != 0) = false := bne_eq_false_iff_eq.mpr c60
                                  clear c60
                                  have H' := Aside0.mk H
                                  clear H
                                  go_wp2_with (first | (go_at_call 43; (with_reducible refine (cursor_Reader_Fault.calls g704 t701 x705001_41 x705002_41 t733 t734 t735 w _ ?side1 ?side2 A59.out).mono ?_); (case side1 => repeat (first | (with_reducible first | exact HI704.out | apply IsS46.alloc | apply IsS46.drewN | apply IsS46.drew | apply IsS46.set_1 | apply IsS46.set_2 | refine IsS46.far ?_ NB704_712.out _ | refine IsS46.far ?_ NB704_723.out _) | exact HI704.out)); (case side2 => repeat (first | (with_reducible first | exact HB.out | apply below_alloc | apply pw_below_drewN | apply below_drew1 | refine below_set ?_ (IsS46.ge HI704.out) | refine below_set ?_ GE712.out | refine below_set ?_ GE723.out) | exact HB.out)); rintro e w61 ⟨rfl, hi, hb, hk⟩; (try clear A59); have n0_ := Aside0.mk (Kd.R_mono (Kd.R_keep (IsS46.apart (show IsS46 w _ g704 t701 x705001_41 x705002_41 from by repeat (first | (with_reducible first | exact HI704.out | apply IsS46.alloc | apply IsS46.drewN | apply IsS46.drew | apply IsS46.set_1 | apply IsS46.set_2 | refine IsS46.far ?_ NB704_712.out _ | refine IsS46.far ?_ NB704_723.out _) | exact HI704.out)) (by (with_reducible repeat (first | apply Kd.R_alloc | apply Kd.R_drewN | apply Kd.R_drew)); exact HO_724001.out) (by decide)) hk (fun _ h => h.2)) (fun _ h => h.1)); have n1_ := Aside0.mk (Kd.R_mono (Kd.R_keep (IsS46.apart (show IsS46 w _ g704 t701 x705001_41 x705002_41 from by repeat (first | (with_reducible first | exact HI704.out | apply IsS46.alloc | apply IsS46.drewN | apply IsS46.drew | apply IsS46.set_1 | apply IsS46.set_2 | refine IsS46.far ?_ NB704_712.out _ | refine IsS46.far ?_ NB704_723.out _) | exact HI704.out)) (by (with_reducible repeat (first | apply Kd.R_alloc | apply Kd.R_drewN | apply Kd.R_drew)); exact HO_724002.out) (by decide)) hk (fun _ h => h.2)) (fun _ h => h.1)); have n2_ := Aside0.mk (KeepBut.blk hk (g' := gb712) (o := .cells #[.int .i64 ((rd_T48 l1 x8_2).f0), .int .i64 t713, .int .i64 ((rd_T48 l1 x8_2).f2), .int .i64 ((rd_T48 l1 x8_2).f3)] 48 (0, 0)) (by (with_reducible repeat (first | refine blk_drewN ?_ _ | refine blk_drew ?_ | refine blk_alloc ?_ _)); exact BK712.out) NB712_704.out (by simp)); have n3_ := Aside0.mk (KeepBut.blk hk (g' := gb723) (o := .cells #[.int .u64 t714, .slice Ao29 t715.length co29, .slice Ao30 t718.length co30] 50 (0, 0)) (by (with_reducible repeat (first | refine blk_drewN ?_ _ | refine blk_drew ?_ | refine blk_alloc ?_ _)); exact BK723.out) NB723_704.out (by simp)); have n4_ := Aside0.mk (hb); have n5_ := Aside0.mk (hi); clear HO_724001; clear HO_724002; clear BK712; clear BK723; clear HB; clear HI704; have HO_724001 := n0_; have HO_724002 := n1_; have BK712 := n2_; have BK723 := n3_; have HB := n4_; have HI704 := n5_; clear n0_ n1_ n2_ n3_ n4_ n5_; (try clear hb); (try clear hb2); (try clear hk); (try clear hi)))
                                  go_meet
                                  case rel => exact ⟨_, (false), (t734), (t735), (by first | rfl | (simp; done) | (simp [*]; done)), H', ⟨by have := HJ5.out; have := HK2.out; have := HJ19.out; have := HJ41.out; first | omega | exact Nat.le_refl _⟩, ⟨by (with_reducible repeat (first | apply Kd.R_alloc | apply Kd.R_drewN | apply Kd.R_drew)); exact HO_724001.out⟩, ⟨by (with_reducible repeat (first | apply Kd.R_alloc | apply Kd.R_drewN | apply Kd.R_drew)); exact HO_724002.out⟩, ⟨by (with_reducible repeat (first | refine blk_drewN ?_ _ | refine blk_drew ?_ | refine blk_alloc ?_ _)); exact BK712.out⟩, ⟨by (with_reducible repeat (first | refine blk_drewN ?_ _ | refine blk_drew ?_ | refine blk_alloc ?_ _)); exact BK723.out⟩, ⟨by repeat (first | (with_reducible first | exact HI704.out | apply IsS46.alloc | apply IsS46.drewN | apply IsS46.drew | apply IsS46.set_1 | apply IsS46.set_2 | refine IsS46.far ?_ NB704_712.out _ | refine IsS46.far ?_ NB704_723.out _) | exact HI704.out)⟩, ⟨by repeat (first | (with_reducible first | exact HB.out | apply below_alloc | apply pw_below_drewN | apply below_drew1 | refine below_set ?_ (IsS46.ge HI704.out) | refine below_set ?_ GE712.out | refine below_set ?_ GE723.out) | exact HB.out)⟩⟩
                                · rw [if_neg c60] at H
                                  have c60b0 : (t733 == 0) = false := beq_eq_false_iff_ne.mpr c60
                                  have c60b1 : (t733 != 0) = true := bne_iff_ne.mpr c60
                                  by_cases c62 : x11_19 = true
                                  · subst c62
                                    have H1 : ((cursor_Reader_Left.f t701 t734 t735).bind fun bt736 => (colonnadelaw07_CursorSticky.j4 kj41 l1 x6_2 x8_2 (bt736.1 != x6_2) t701 bt736.2.1 bt736.2.2)) = some r := by rw [if_pos rfl] at H; exact H
                                    clear H
                                    have H := H1
                                    clear H1
                                    replace H := Option.bind_eq_some_iff.mp H
                                    obtain ⟨⟨t736, t737, t738⟩, A630, H⟩ := H
                                    replace H : (colonnadelaw07_CursorSticky.j4 kj41 l1 x6_2 x8_2 (t736 != x6_2) t701 t737 t738) = some r := H
                                    have A63 := Aside0.mk A630
                                    clear A630
                                    have H' := Aside0.mk H
                                    clear H
                                    go_wp2_with (first | (go_at_call 43; (with_reducible refine (cursor_Reader_Fault.calls g704 t701 x705001_41 x705002_41 t733 t734 t735 w _ ?side1 ?side2 A59.out).mono ?_); (case side1 => repeat (first | (with_reducible first | exact HI704.out | apply IsS46.alloc | apply IsS46.drewN | apply IsS46.drew | apply IsS46.set_1 | apply IsS46.set_2 | refine IsS46.far ?_ NB704_712.out _ | refine IsS46.far ?_ NB704_723.out _) | exact HI704.out)); (case side2 => repeat (first | (with_reducible first | exact HB.out | apply below_alloc | apply pw_below_drewN | apply below_drew1 | refine below_set ?_ (IsS46.ge HI704.out) | refine below_set ?_ GE712.out | refine below_set ?_ GE723.out) | exact HB.out)); rintro e w64 ⟨rfl, hi, hb, hk⟩; (try clear A59); have n0_ := Aside0.mk (Kd.R_mono (Kd.R_keep (IsS46.apart (show IsS46 w _ g704 t701 x705001_41 x705002_41 from by repeat (first | (with_reducible first | exact HI704.out | apply IsS46.alloc | apply IsS46.drewN | apply IsS46.drew | apply IsS46.set_1 | apply IsS46.set_2 | refine IsS46.far ?_ NB704_712.out _ | refine IsS46.far ?_ NB704_723.out _) | exact HI704.out)) (by (with_reducible repeat (first | apply Kd.R_alloc | apply Kd.R_drewN | apply Kd.R_drew)); exact HO_724001.out) (by decide)) hk (fun _ h => h.2)) (fun _ h => h.1)); have n1_ := Aside0.mk (Kd.R_mono (Kd.R_keep (IsS46.apart (show IsS46 w _ g704 t701 x705001_41 x705002_41 from by repeat (first | (with_reducible first | exact HI704.out | apply IsS46.alloc | apply IsS46.drewN | apply IsS46.drew | apply IsS46.set_1 | apply IsS46.set_2 | refine IsS46.far ?_ NB704_712.out _ | refine IsS46.far ?_ NB704_723.out _) | exact HI704.out)) (by (with_reducible repeat (first | apply Kd.R_alloc | apply Kd.R_drewN | apply Kd.R_drew)); exact HO_724002.out) (by decide)) hk (fun _ h => h.2)) (fun _ h => h.1)); have n2_ := Aside0.mk (KeepBut.blk hk (g' := gb712) (o := .cells #[.int .i64 ((rd_T48 l1 x8_2).f0), .int .i64 t713, .int .i64 ((rd_T48 l1 x8_2).f2), .int .i64 ((rd_T48 l1 x8_2).f3)] 48 (0, 0)) (by (with_reducible repeat (first | refine blk_drewN ?_ _ | refine blk_drew ?_ | refine blk_alloc ?_ _)); exact BK712.out) NB712_704.out (by simp)); have n3_ := Aside0.mk (KeepBut.blk hk (g' := gb723) (o := .cells #[.int .u64 t714, .slice Ao29 t715.length co29, .slice Ao30 t718.length co30] 50 (0, 0)) (by (with_reducible repeat (first | refine blk_drewN ?_ _ | refine blk_drew ?_ | refine blk_alloc ?_ _)); exact BK723.out) NB723_704.out (by simp)); have n4_ := Aside0.mk (hb); have n5_ := Aside0.mk (hi); clear HO_724001; clear HO_724002; clear BK712; clear BK723; clear HB; clear HI704; have HO_724001 := n0_; have HO_724002 := n1_; have BK712 := n2_; have BK723 := n3_; have HB := n4_; have HI704 := n5_; clear n0_ n1_ n2_ n3_ n4_ n5_; (try clear hb); (try clear hb2); (try clear hk); (try clear hi)) | (go_at_call 42; (with_reducible refine (cursor_Reader_Left.calls g704 t701 t734 t735 t736 t737 t738 w _ ?side1 ?side2 A63.out).mono ?_); (case side1 => repeat (first | (with_reducible first | exact HI704.out | apply IsS46.alloc | apply IsS46.drewN | apply IsS46.drew | apply IsS46.set_1 | apply IsS46.set_2 | refine IsS46.far ?_ NB704_712.out _ | refine IsS46.far ?_ NB704_723.out _) | exact HI704.out)); (case side2 => repeat (first | (with_reducible first | exact HB.out | apply below_alloc | apply pw_below_drewN | apply below_drew1 | refine below_set ?_ (IsS46.ge HI704.out) | refine below_set ?_ GE712.out | refine below_set ?_ GE723.out) | exact HB.out)); rintro e w65 ⟨rfl, hi, hb, hk⟩; (try clear A63); have n0_ := Aside0.mk (Kd.R_mono (Kd.R_keep (IsS46.apart (show IsS46 w _ g704 t701 t734 t735 from by repeat (first | (with_reducible first | exact HI704.out | apply IsS46.alloc | apply IsS46.drewN | apply IsS46.drew | apply IsS46.set_1 | apply IsS46.set_2 | refine IsS46.far ?_ NB704_712.out _ | refine IsS46.far ?_ NB704_723.out _) | exact HI704.out)) (by (with_reducible repeat (first | apply Kd.R_alloc | apply Kd.R_drewN | apply Kd.R_drew)); exact HO_724001.out) (by decide)) hk (fun _ h => h.2)) (fun _ h => h.1)); have n1_ := Aside0.mk (Kd.R_mono (Kd.R_keep (IsS46.apart (show IsS46 w _ g704 t701 t734 t735 from by repeat (first | (with_reducible first | exact HI704.out | apply IsS46.alloc | apply IsS46.drewN | apply IsS46.drew | apply IsS46.set_1 | apply IsS46.set_2 | refine IsS46.far ?_ NB704_712.out _ | refine IsS46.far ?_ NB704_723.out _) | exact HI704.out)) (by (with_reducible repeat (first | apply Kd.R_alloc | apply Kd.R_drewN | apply Kd.R_drew)); exact HO_724002.out) (by decide)) hk (fun _ h => h.2)) (fun _ h => h.1)); have n2_ := Aside0.mk (KeepBut.blk hk (g' := gb712) (o := .cells #[.int .i64 ((rd_T48 l1 x8_2).f0), .int .i64 t713, .int .i64 ((rd_T48 l1 x8_2).f2), .int .i64 ((rd_T48 l1 x8_2).f3)] 48 (0, 0)) (by (with_reducible repeat (first | refine blk_drewN ?_ _ | refine blk_drew ?_ | refine blk_alloc ?_ _)); exact BK712.out) NB712_704.out (by simp)); have n3_ := Aside0.mk (KeepBut.blk hk (g' := gb723) (o := .cells #[.int .u64 t714, .slice Ao29 t715.length co29, .slice Ao30 t718.length co30] 50 (0, 0)) (by (with_reducible repeat (first | refine blk_drewN ?_ _ | refine blk_drew ?_ | refine blk_alloc ?_ _)); exact BK723.out) NB723_704.out (by simp)); have n4_ := Aside0.mk (hb); have n5_ := Aside0.mk (hi); clear HO_724001; clear HO_724002; clear BK712; clear BK723; clear HB; clear HI704; have HO_724001 := n0_; have HO_724002 := n1_; have BK712 := n2_; have BK723 := n3_; have HB := n4_; have HI704 := n5_; clear n0_ n1_ n2_ n3_ n4_ n5_; (try clear hb); (try clear hb2); (try clear hk); (try clear hi)))
                                    go_meet
                                    case rel => exact ⟨_, ((t736 != x6_2)), (t737), (t738), (by first | rfl | (simp; done) | (simp [*]; done)), H', ⟨by have := HJ5.out; have := HK2.out; have := HJ19.out; have := HJ41.out; first | omega | exact Nat.le_refl _⟩, ⟨by (with_reducible repeat (first | apply Kd.R_alloc | apply Kd.R_drewN | apply Kd.R_drew)); exact HO_724001.out⟩, ⟨by (with_reducible repeat (first | apply Kd.R_alloc | apply Kd.R_drewN | apply Kd.R_drew)); exact HO_724002.out⟩, ⟨by (with_reducible repeat (first | refine blk_drewN ?_ _ | refine blk_drew ?_ | refine blk_alloc ?_ _)); exact BK712.out⟩, ⟨by (with_reducible repeat (first | refine blk_drewN ?_ _ | refine blk_drew ?_ | refine blk_alloc ?_ _)); exact BK723.out⟩, ⟨by repeat (first | (with_reducible first | exact HI704.out | apply IsS46.alloc | apply IsS46.drewN | apply IsS46.drew | apply IsS46.set_1 | apply IsS46.set_2 | refine IsS46.far ?_ NB704_712.out _ | refine IsS46.far ?_ NB704_723.out _) | exact HI704.out)⟩, ⟨by repeat (first | (with_reducible first | exact HB.out | apply below_alloc | apply pw_below_drewN | apply below_drew1 | refine below_set ?_ (IsS46.ge HI704.out) | refine below_set ?_ GE712.out | refine below_set ?_ GE723.out) | exact HB.out)⟩⟩
                                  · replace c62 := Bool.eq_false_iff.mpr c62
                                    subst c62
                                    have H1 : (colonnadelaw07_CursorSticky.j4 kj41 l1 x6_2 x8_2 true t701 t734 t735) = some r := by rw [if_neg (show ¬ (false = true) by decide)] at H; exact H
                                    exact absurd ((colonnadelaw07_CursorSticky.j4_dead H1).trans htrue.out) (by decide)
                              · rw [if_neg c58] at H
                                have c58b0 : (x7_2 == 0) = false := beq_eq_false_iff_ne.mpr c58
                                have c58b1 : (x7_2 != 0) = true := bne_iff_ne.mpr c58
                                (first | rw [c58b0] | (simp only [i64_w, i32_w]; rw [c58b0]) | skip)
                                have H' := Aside0.mk H
                                clear H
                                go_wp2
                                go_meet
                                case rel => exact ⟨_, (false), (x705001_41), (x705002_41), (by first | rfl | (simp; done) | (simp [*]; done)), H', ⟨by have := HJ5.out; have := HK2.out; have := HJ19.out; have := HJ41.out; first | omega | exact Nat.le_refl _⟩, ⟨by (with_reducible repeat (first | apply Kd.R_alloc | apply Kd.R_drewN | apply Kd.R_drew)); exact HO_724001.out⟩, ⟨by (with_reducible repeat (first | apply Kd.R_alloc | apply Kd.R_drewN | apply Kd.R_drew)); exact HO_724002.out⟩, ⟨by (with_reducible repeat (first | refine blk_drewN ?_ _ | refine blk_drew ?_ | refine blk_alloc ?_ _)); exact BK712.out⟩, ⟨by (with_reducible repeat (first | refine blk_drewN ?_ _ | refine blk_drew ?_ | refine blk_alloc ?_ _)); exact BK723.out⟩, ⟨by repeat (first | (with_reducible first | exact HI704.out | apply IsS46.alloc | apply IsS46.drewN | apply IsS46.drew | apply IsS46.set_1 | apply IsS46.set_2 | refine IsS46.far ?_ NB704_712.out _ | refine IsS46.far ?_ NB704_723.out _) | exact HI704.out)⟩, ⟨by repeat (first | (with_reducible first | exact HB.out | apply below_alloc | apply pw_below_drewN | apply below_drew1 | refine below_set ?_ (IsS46.ge HI704.out) | refine below_set ?_ GE712.out | refine below_set ?_ GE723.out) | exact HB.out)⟩⟩
                            case rest =>
                              clear HC57
                              try clear c1
                              try clear c2
                              try clear p2
                              try clear c3
                              try clear c4
                              try clear c5
                              try clear c6
                              try clear p7
                              try clear q7
                              try clear hx7
                              try clear c8
                              try clear c10
                              try clear c10b0
                              try clear c10b1
                              try clear c15
                              try clear c16
                              try clear c16b0
                              try clear c17
                              try clear c17b0
                              try clear c20
                              try clear c21
                              try clear c22
                              try clear c23
                              try clear c26
                              try clear c27
                              try clear c31
                              try clear c31b0
                              try clear c31b1
                              try clear c32
                              try clear c32b0
                              try clear c32b1
                              try clear c32b2
                              try clear c33
                              try clear c34
                              try clear c36
                              try clear c37
                              try clear c39
                              try clear c40
                              try clear c42
                              try clear c43
                              try clear c43b0
                              try clear c43b1
                              try clear c44
                              try clear c46
                              try clear c46b0
                              try clear c46b1
                              try clear c48
                              try clear c48b0
                              try clear c48b1
                              try clear c56
                              try clear c58
                              try clear c58b0
                              try clear c58b1
                              try clear c60
                              try clear c60b0
                              try clear c60b1
                              try clear c62
                              try clear hcz23_0
                              try clear hcz23_1
                              try clear hcz23_2
                              try clear hcz23_3
                              try clear hcz28_0
                              try clear hcz28_1
                              try clear hcz28_2
                              try clear hcz35_0
                              try clear hcz35_1
                              try clear hcz35_2
                              try clear hcz38_0
                              try clear hcz38_1
                              try clear hcz38_2
                              try clear hcz41_0
                              try clear hcz41_1
                              try clear hcz41_2
                              try clear hfz23_0
                              try clear hfz23_1
                              try clear hfz23_2
                              try clear hfz23_3
                              try clear hfz28_0
                              try clear hfz28_1
                              try clear hfz28_2
                              try clear hfz35_0
                              try clear hfz35_1
                              try clear hfz35_2
                              try clear hfz38_0
                              try clear hfz38_1
                              try clear hfz38_2
                              try clear hfz41_0
                              try clear hfz41_1
                              try clear hfz41_2
                              try clear hx711_0
                              try clear hx711_1
                              try clear hx711_2
                              try clear hx711_3
                              try clear p2
                              try clear p7
                              try clear p711
                              try clear q7
                              try clear q711
                              obtain ⟨kq, x100_56, x705001_56, x705002_56, rfl, HA, HJ56, HO_724001, HO_724002, BK712, BK723, HI704, HB⟩ := hcut
                              cases kq with
                              | zero => exact absurd HA.out (by simp [colonnadelaw07_CursorSticky.j4])
                              | succ kj56 =>
                                have H := HA.out
                                clear HA
                                simp only [colonnadelaw07_CursorSticky.j4] at H
                                by_cases c67 : x100_56 = true
                                · subst c67
                                  have H1 : (some false) = some r := by rw [if_pos rfl] at H; exact H
                                  exact absurd ((Option.some.inj H1).trans htrue.out) (by decide)
                                · replace c67 := Bool.eq_false_iff.mpr c67
                                  subst c67
                                  have H1 : ((cursor_Reader_Left.f t701 x705001_56 x705002_56).bind fun bt739 => (if bt739.1 > x6_2 then (colonnadelaw07_CursorSticky.j5 kj56 l1 x8_2 true t701 bt739.2.1 bt739.2.2) else ((cursor_Reader_Left.f t701 bt739.2.1 bt739.2.2).bind fun bt742 => (colonnadelaw07_CursorSticky.j5 kj56 l1 x8_2 (decide (bt742.1 < 0)) t701 bt742.2.1 bt742.2.2)))) = some r := by rw [if_neg (show ¬ (false = true) by decide)] at H; exact H
                                  clear H
                                  have H := H1
                                  clear H1
                                  have HC68 := Aside0.mk H
                                  clear H
                                  go_upto_region 19 with (fail)
                                  go_cut [109] (fun v109 wc => ∃ (kq : Nat) (x109_67 : Bool) (x705001_67 : Int) (x705002_67 : Int), v109 = .bool x109_67 ∧ Aside0 (colonnadelaw07_CursorSticky.j5 kq l1 x8_2 x109_67 t701 x705001_67 x705002_67 = some r) ∧ Aside0 (kq ≤ kj56) ∧ Aside0 (Kd.R (Kd.int .u8) 5 wc w.heap.size (fun _ => True) (.slice Ao29 t715.length co29) t715) ∧ Aside0 (Kd.R Kd.string 9 wc w.heap.size (fun _ => True) (.slice Ao30 t718.length co30) t718) ∧ Aside0 (wc.heap[gb712]? = some (.cells #[.int .i64 ((rd_T48 l1 x8_2).f0), .int .i64 t713, .int .i64 ((rd_T48 l1 x8_2).f2), .int .i64 ((rd_T48 l1 x8_2).f3)] 48 (0, 0))) ∧ Aside0 (wc.heap[gb723]? = some (.cells #[.int .u64 t714, (.slice Ao29 t715.length co29), (.slice Ao30 t718.length co30)] 50 (0, 0))) ∧ Aside0 (IsS46 w wc g704 t701 x705001_67 x705002_67) ∧ Aside0 (Below w.heap.size w wc))
                                  case first =>
                                    have H := HC68.out
                                    clear HC68
                                    replace H := Option.bind_eq_some_iff.mp H
                                    obtain ⟨⟨t739, t740, t741⟩, A690, H⟩ := H
                                    replace H : (if t739 > x6_2 then (colonnadelaw07_CursorSticky.j5 kj56 l1 x8_2 true t701 t740 t741) else ((cursor_Reader_Left.f t701 t740 t741).bind fun bt742 => (colonnadelaw07_CursorSticky.j5 kj56 l1 x8_2 (decide (bt742.1 < 0)) t701 bt742.2.1 bt742.2.2))) = some r := H
                                    have A69 := Aside0.mk A690
                                    clear A690
                                    by_cases c70 : t739 > x6_2
                                    · rw [if_pos c70] at H
                                      exact absurd ((colonnadelaw07_CursorSticky.j5_dead H).trans htrue.out) (by decide)
                                    · rw [if_neg c70] at H
                                      have c70b0 : decide (x6_2 < t739) = false := decide_eq_false c70
                                      clear c70
                                      (first | rw [c70b0] | (simp only [i64_w, i32_w]; rw [c70b0]) | skip)
                                      replace H := Option.bind_eq_some_iff.mp H
                                      obtain ⟨⟨t742, t743, t744⟩, A720, H⟩ := H
                                      replace H : (colonnadelaw07_CursorSticky.j5 kj56 l1 x8_2 (decide (t742 < 0)) t701 t743 t744) = some r := H
                                      have A72 := Aside0.mk A720
                                      clear A720
                                      have H' := Aside0.mk H
                                      clear H
                                      go_wp2_with (first | ((with_reducible refine gate_callee (f := 42) rfl ?_); refine goesL_ (some 102) rfl rfl Try.func42 (by kernel_rfl) rfl #[.pointer (some ⟨g704, 0, none⟩)] rfl (by (try simp only [List.map_toArray, List.map_cons, List.map_nil]); first | done | rfl | (simp only [List.length_drop, List.length_take]; rfl)) ?_; (with_reducible refine (cursor_Reader_Left.calls g704 t701 x705001_56 x705002_56 t739 t740 t741 w _ ?side1 ?side2 A69.out).mono ?_); (case side1 => repeat (first | (with_reducible first | exact HI704.out | apply IsS46.alloc | apply IsS46.drewN | apply IsS46.drew | apply IsS46.set_1 | apply IsS46.set_2 | refine IsS46.far ?_ NB704_712.out _ | refine IsS46.far ?_ NB704_723.out _) | exact HI704.out)); (case side2 => repeat (first | (with_reducible first | exact HB.out | apply below_alloc | apply pw_below_drewN | apply below_drew1 | refine below_set ?_ (IsS46.ge HI704.out) | refine below_set ?_ GE712.out | refine below_set ?_ GE723.out) | exact HB.out)); rintro e w73 ⟨rfl, hi, hb, hk⟩; refine ⟨_, rfl, ?_⟩; have n0_ := Aside0.mk (Kd.R_mono (Kd.R_keep (IsS46.apart (show IsS46 w _ g704 t701 x705001_56 x705002_56 from by repeat (first | (with_reducible first | exact HI704.out | apply IsS46.alloc | apply IsS46.drewN | apply IsS46.drew | apply IsS46.set_1 | apply IsS46.set_2 | refine IsS46.far ?_ NB704_712.out _ | refine IsS46.far ?_ NB704_723.out _) | exact HI704.out)) (by (with_reducible repeat (first | apply Kd.R_alloc | apply Kd.R_drewN | apply Kd.R_drew)); exact HO_724001.out) (by decide)) hk (fun _ h => h.2)) (fun _ h => h.1)); have n1_ := Aside0.mk (Kd.R_mono (Kd.R_keep (IsS46.apart (show IsS46 w _ g704 t701 x705001_56 x705002_56 from by repeat (first | (with_reducible first | exact HI704.out | apply IsS46.alloc | apply IsS46.drewN | apply IsS46.drew | apply IsS46.set_1 | apply IsS46.set_2 | refine IsS46.far ?_ NB704_712.out _ | refine IsS46.far ?_ NB704_723.out _) | exact HI704.out)) (by (with_reducible repeat (first | apply Kd.R_alloc | apply Kd.R_drewN | apply Kd.R_drew)); exact HO_724002.out) (by decide)) hk (fun _ h => h.2)) (fun _ h => h.1)); have n2_ := Aside0.mk (KeepBut.blk hk (g' := gb712) (o := .cells #[.int .i64 ((rd_T48 l1 x8_2).f0), .int .i64 t713, .int .i64 ((rd_T48 l1 x8_2).f2), .int .i64 ((rd_T48 l1 x8_2).f3)] 48 (0, 0)) (by (with_reducible repeat (first | refine blk_drewN ?_ _ | refine blk_drew ?_ | refine blk_alloc ?_ _)); exact BK712.out) NB712_704.out (by simp)); have n3_ := Aside0.mk (KeepBut.blk hk (g' := gb723) (o := .cells #[.int .u64 t714, .slice Ao29 t715.length co29, .slice Ao30 t718.length co30] 50 (0, 0)) (by (with_reducible repeat (first | refine blk_drewN ?_ _ | refine blk_drew ?_ | refine blk_alloc ?_ _)); exact BK723.out) NB723_704.out (by simp)); have n4_ := Aside0.mk (hb); have n5_ := Aside0.mk (hi); clear HO_724001; clear HO_724002; clear BK712; clear BK723; clear HB; clear HI704; have HO_724001 := n0_; have HO_724002 := n1_; have BK712 := n2_; have BK723 := n3_; have HB := n4_; have HI704 := n5_; clear n0_ n1_ n2_ n3_ n4_ n5_; (try clear hb); (try clear hb2); (try clear hk); (try clear hi)) | (go_at_call 42; (with_reducible refine (cursor_Reader_Left.calls g704 t701 t740 t741 t742 t743 t744 w _ ?side1 ?side2 A72.out).mono ?_); (case side1 => repeat (first | (with_reducible first | exact HI704.out | apply IsS46.alloc | apply IsS46.drewN | apply IsS46.drew | apply IsS46.set_1 | apply IsS46.set_2 | refine IsS46.far ?_ NB704_712.out _ | refine IsS46.far ?_ NB704_723.out _) | exact HI704.out)); (case side2 => repeat (first | (with_reducible first | exact HB.out | apply below_alloc | apply pw_below_drewN | apply below_drew1 | refine below_set ?_ (IsS46.ge HI704.out) | refine below_set ?_ GE712.out | refine below_set ?_ GE723.out) | exact HB.out)); rintro e w74 ⟨rfl, hi, hb, hk⟩; (try clear A72); have n0_ := Aside0.mk (Kd.R_mono (Kd.R_keep (IsS46.apart (show IsS46 w _ g704 t701 t740 t741 from by repeat (first | (with_reducible first | exact HI704.out | apply IsS46.alloc | apply IsS46.drewN | apply IsS46.drew | apply IsS46.set_1 | apply IsS46.set_2 | refine IsS46.far ?_ NB704_712.out _ | refine IsS46.far ?_ NB704_723.out _) | exact HI704.out)) (by (with_reducible repeat (first | apply Kd.R_alloc | apply Kd.R_drewN | apply Kd.R_drew)); exact HO_724001.out) (by decide)) hk (fun _ h => h.2)) (fun _ h => h.1)); have n1_ := Aside0.mk (Kd.R_mono (Kd.R_keep (IsS46.apart (show IsS46 w _ g704 t701 t740 t741 from by repeat (first | (with_reducible first | exact HI704.out | apply IsS46.alloc | apply IsS46.drewN | apply IsS46.drew | apply IsS46.set_1 | apply IsS46.set_2 | refine IsS46.far ?_ NB704_712.out _ | refine IsS46.far ?_ NB704_723.out _) | exact HI704.out)) (by (with_reducible repeat (first | apply Kd.R_alloc | apply Kd.R_drewN | apply Kd.R_drew)); exact HO_724002.out) (by decide)) hk (fun _ h => h.2)) (fun _ h => h.1)); have n2_ := Aside0.mk (KeepBut.blk hk (g' := gb712) (o := .cells #[.int .i64 ((rd_T48 l1 x8_2).f0), .int .i64 t713, .int .i64 ((rd_T48 l1 x8_2).f2), .int .i64 ((rd_T48 l1 x8_2).f3)] 48 (0, 0)) (by (with_reducible repeat (first | refine blk_drewN ?_ _ | refine blk_drew ?_ | refine blk_alloc ?_ _)); exact BK712.out) NB712_704.out (by simp)); have n3_ := Aside0.mk (KeepBut.blk hk (g' := gb723) (o := .cells #[.int .u64 t714, .slice Ao29 t715.length co29, .slice Ao30 t718.length co30] 50 (0, 0)) (by (with_reducible repeat (first | refine blk_drewN ?_ _ | refine blk_drew ?_ | refine blk_alloc ?_ _)); exact BK723.out) NB723_704.out (by simp)); have n4_ := Aside0.mk (hb); have n5_ := Aside0.mk (hi); clear HO_724001; clear HO_724002; clear BK712; clear BK723; clear HB; clear HI704; have HO_724001 := n0_; have HO_724002 := n1_; have BK712 := n2_; have BK723 := n3_; have HB := n4_; have HI704 := n5_; clear n0_ n1_ n2_ n3_ n4_ n5_; (try clear hb); (try clear hb2); (try clear hk); (try clear hi)))
                                      go_meet
                                      case rel => exact ⟨_, (decide (t742 < 0)), (t743), (t744), (by first | rfl | (simp; done) | (simp [*]; done)), H', ⟨by have := HJ5.out; have := HK2.out; have := HJ19.out; have := HJ41.out; have := HJ56.out; first | omega | exact Nat.le_refl _⟩, ⟨by (with_reducible repeat (first | apply Kd.R_alloc | apply Kd.R_drewN | apply Kd.R_drew)); exact HO_724001.out⟩, ⟨by (with_reducible repeat (first | apply Kd.R_alloc | apply Kd.R_drewN | apply Kd.R_drew)); exact HO_724002.out⟩, ⟨by (with_reducible repeat (first | refine blk_drewN ?_ _ | refine blk_drew ?_ | refine blk_alloc ?_ _)); exact BK712.out⟩, ⟨by (with_reducible repeat (first | refine blk_drewN ?_ _ | refine blk_drew ?_ | refine blk_alloc ?_ _)); exact BK723.out⟩, ⟨by repeat (first | (with_reducible first | exact HI704.out | apply IsS46.alloc | apply IsS46.drewN | apply IsS46.drew | apply IsS46.set_1 | apply IsS46.set_2 | refine IsS46.far ?_ NB704_712.out _ | refine IsS46.far ?_ NB704_723.out _) | exact HI704.out)⟩, ⟨by repeat (first | (with_reducible first | exact HB.out | apply below_alloc | apply pw_below_drewN | apply below_drew1 | refine below_set ?_ (IsS46.ge HI704.out) | refine below_set ?_ GE712.out | refine below_set ?_ GE723.out) | exact HB.out)⟩⟩
                                  case rest =>
                                    clear HC68
                                    try clear c1
                                    try clear c2
                                    try clear p2
                                    try clear c3
                                    try clear c4
                                    try clear c5
                                    try clear c6
                                    try clear c7
                                    try clear p7
                                    try clear q7
                                    try clear hx7
                                    try clear c8
                                    try clear c10
                                    try clear c10b0
                                    try clear c10b1
                                    try clear c15
                                    try clear c16
                                    try clear c16b0
                                    try clear c17
                                    try clear c17b0
                                    try clear c20
                                    try clear c21
                                    try clear c22
                                    try clear c23
                                    try clear c26
                                    try clear c27
                                    try clear c31
                                    try clear c31b0
                                    try clear c31b1
                                    try clear c32
                                    try clear c32b0
                                    try clear c32b1
                                    try clear c32b2
                                    try clear c33
                                    try clear c34
                                    try clear c36
                                    try clear c37
                                    try clear c39
                                    try clear c40
                                    try clear c42
                                    try clear c43
                                    try clear c43b0
                                    try clear c43b1
                                    try clear c44
                                    try clear c46
                                    try clear c46b0
                                    try clear c46b1
                                    try clear c48
                                    try clear c48b0
                                    try clear c48b1
                                    try clear c56
                                    try clear c58
                                    try clear c58b0
                                    try clear c58b1
                                    try clear c60
                                    try clear c60b0
                                    try clear c60b1
                                    try clear c62
                                    try clear c67
                                    try clear c70
                                    try clear c70b0
                                    try clear p71
                                    try clear q71
                                    try clear hx71
                                    try clear hcz23_0
                                    try clear hcz23_1
                                    try clear hcz23_2
                                    try clear hcz23_3
                                    try clear hcz28_0
                                    try clear hcz28_1
                                    try clear hcz28_2
                                    try clear hcz35_0
                                    try clear hcz35_1
                                    try clear hcz35_2
                                    try clear hcz38_0
                                    try clear hcz38_1
                                    try clear hcz38_2
                                    try clear hcz41_0
                                    try clear hcz41_1
                                    try clear hcz41_2
                                    try clear hfz23_0
                                    try clear hfz23_1
                                    try clear hfz23_2
                                    try clear hfz23_3
                                    try clear hfz28_0
                                    try clear hfz28_1
                                    try clear hfz28_2
                                    try clear hfz35_0
                                    try clear hfz35_1
                                    try clear hfz35_2
                                    try clear hfz38_0
                                    try clear hfz38_1
                                    try clear hfz38_2
                                    try clear hfz41_0
                                    try clear hfz41_1
                                    try clear hfz41_2
                                    try clear hx711_0
                                    try clear hx711_1
                                    try clear hx711_2
                                    try clear hx711_3
                                    try clear p2
                                    try clear p7
                                    try clear p711
                                    try clear q7
                                    try clear q711
                                    obtain ⟨kq, x109_67, x705001_67, x705002_67, rfl, HA, HJ67, HO_724001, HO_724002, BK712, BK723, HI704, HB⟩ := hcut
                                    cases kq with
                                    | zero => exact absurd HA.out (by simp [colonnadelaw07_CursorSticky.j5])
                                    | succ kj67 =>
                                      have H := HA.out
                                      clear HA
                                      simp only [colonnadelaw07_CursorSticky.j5] at H
                                      by_cases c75 : x109_67 = true
                                      · subst c75
                                        have H1 : (some false) = some r := by rw [if_pos rfl] at H; exact H
                                        exact absurd ((Option.some.inj H1).trans htrue.out) (by decide)
                                      · replace c75 := Bool.eq_false_iff.mpr c75
                                        subst c75
                                        have H1 : ((cursor_Reader_Fault.f t701 x705001_67 x705002_67).bind fun bt745 => ((cursor_Reader_Left.f t701 bt745.2.1 bt745.2.2).bind fun bt748 => (if bt745.1 = 0 then ((cursor_Reader_End.f t701 bt748.2.1 bt748.2.2).bind fun bt751 => (if ((bt751.1 == 0) != (bt748.1 == 0)) = true then (some false) else (colonnadelaw07_CursorSticky.l0 kj67 l1 bt748.1 bt745.1 (wrap64 (x8_2 + 1)) t701 bt751.2.1 bt751.2.2))) else (colonnadelaw07_CursorSticky.l0 kj67 l1 bt748.1 bt745.1 (wrap64 (x8_2 + 1)) t701 bt748.2.1 bt748.2.2)))) = some r := by rw [if_neg (show ¬ (false = true) by decide)] at H; exact H
                                        clear H
                                        have H := H1
                                        clear H1
                                        replace H := Option.bind_eq_some_iff.mp H
                                        obtain ⟨⟨t745, t746, t747⟩, A760, H⟩ := H
                                        replace H : ((cursor_Reader_Left.f t701 t746 t747).bind fun bt748 => (if t745 = 0 then ((cursor_Reader_End.f t701 bt748.2.1 bt748.2.2).bind fun bt751 => (if ((bt751.1 == 0) != (bt748.1 == 0)) = true then (some false) else (colonnadelaw07_CursorSticky.l0 kj67 l1 bt748.1 t745 (wrap64 (x8_2 + 1)) t701 bt751.2.1 bt751.2.2))) else (colonnadelaw07_CursorSticky.l0 kj67 l1 bt748.1 t745 (wrap64 (x8_2 + 1)) t701 bt748.2.1 bt748.2.2))) = some r := H
                                        have A76 := Aside0.mk A760
                                        clear A760
                                        replace H := Option.bind_eq_some_iff.mp H
                                        obtain ⟨⟨t748, t749, t750⟩, A770, H⟩ := H
                                        replace H : (if t745 = 0 then ((cursor_Reader_End.f t701 t749 t750).bind fun bt751 => (if ((bt751.1 == 0) != (t748 == 0)) = true then (some false) else (colonnadelaw07_CursorSticky.l0 kj67 l1 t748 t745 (wrap64 (x8_2 + 1)) t701 bt751.2.1 bt751.2.2))) else (colonnadelaw07_CursorSticky.l0 kj67 l1 t748 t745 (wrap64 (x8_2 + 1)) t701 t749 t750)) = some r := H
                                        have A77 := Aside0.mk A770
                                        clear A770
                                        by_cases c78 : t745 = 0
                                        · rw [if_pos c78] at H
                                          have c78b0 : (t745 == 0) = true := beq_iff_eq.mpr c78
                                          have c78b1 : (t745 != 0) = false := bne_eq_false_iff_eq.mpr c78
                                          clear c78
                                          replace H := Option.bind_eq_some_iff.mp H
                                          obtain ⟨⟨t751, t752, t753⟩, A790, H⟩ := H
                                          replace H : (if ((t751 == 0) != (t748 == 0)) = true then (some false) else (colonnadelaw07_CursorSticky.l0 kj67 l1 t748 t745 (wrap64 (x8_2 + 1)) t701 t752 t753)) = some r := H
                                          have A79 := Aside0.mk A790
                                          clear A790
                                          by_cases c80 : ((t751 == 0) != (t748 == 0)) = true
                                          · rw [if_pos c80] at H
                                            exact absurd ((Option.some.inj H).trans htrue.out) (by decide)
                                          · rw [if_neg c80] at H
                                            have c80b0 : ((t751 == 0) != (t748 == 0)) = false := by simpa using c80
                                            (try (have c80b1 : decide ((t751 == 0) = (t748 == 0)) = true := by simpa using c80))
                                            (try (have c80b2 : ((t751 == 0) == (t748 == 0)) = true := by simpa using c80))
                                            clear c80
                                            have H' := Aside0.mk H
                                            clear H
                                            go_wp2_with (first | ((with_reducible refine gate_callee (f := 43) rfl ?_); refine goesL_ (some 111) rfl rfl Try.func43 (by kernel_rfl) rfl #[.pointer (some ⟨g704, 0, none⟩)] rfl (by (try simp only [List.map_toArray, List.map_cons, List.map_nil]); first | done | rfl | (simp only [List.length_drop, List.length_take]; rfl)) ?_; (with_reducible refine (cursor_Reader_Fault.calls g704 t701 x705001_67 x705002_67 t745 t746 t747 w _ ?side1 ?side2 A76.out).mono ?_); (case side1 => repeat (first | (with_reducible first | exact HI704.out | apply IsS46.alloc | apply IsS46.drewN | apply IsS46.drew | apply IsS46.set_1 | apply IsS46.set_2 | refine IsS46.far ?_ NB704_712.out _ | refine IsS46.far ?_ NB704_723.out _) | exact HI704.out)); (case side2 => repeat (first | (with_reducible first | exact HB.out | apply below_alloc | apply pw_below_drewN | apply below_drew1 | refine below_set ?_ (IsS46.ge HI704.out) | refine below_set ?_ GE712.out | refine below_set ?_ GE723.out) | exact HB.out)); rintro e w84 ⟨rfl, hi, hb, hk⟩; refine ⟨_, rfl, ?_⟩; have n0_ := Aside0.mk (Kd.R_mono (Kd.R_keep (IsS46.apart (show IsS46 w _ g704 t701 x705001_67 x705002_67 from by repeat (first | (with_reducible first | exact HI704.out | apply IsS46.alloc | apply IsS46.drewN | apply IsS46.drew | apply IsS46.set_1 | apply IsS46.set_2 | refine IsS46.far ?_ NB704_712.out _ | refine IsS46.far ?_ NB704_723.out _) | exact HI704.out)) (by (with_reducible repeat (first | apply Kd.R_alloc | apply Kd.R_drewN | apply Kd.R_drew)); exact HO_724001.out) (by decide)) hk (fun _ h => h.2)) (fun _ h => h.1)); have n1_ := Aside0.mk (Kd.R_mono (Kd.R_keep (IsS46.apart (show IsS46 w _ g704 t701 x705001_67 x705002_67 from by repeat (first | (with_reducible first | exact HI704.out | apply IsS46.alloc | apply IsS46.drewN | apply IsS46.drew | apply IsS46.set_1 | apply IsS46.set_2 | refine IsS46.far ?_ NB704_712.out _ | refine IsS46.far ?_ NB704_723.out _) | exact HI704.out)) (by (with_reducible repeat (first | apply Kd.R_alloc | apply Kd.R_drewN | apply Kd.R_drew)); exact HO_724002.out) (by decide)) hk (fun _ h => h.2)) (fun _ h => h.1)); have n2_ := Aside0.mk (KeepBut.blk hk (g' := gb712) (o := .cells #[.int .i64 ((rd_T48 l1 x8_2).f0), .int .i64 t713, .int .i64 ((rd_T48 l1 x8_2).f2), .int .i64 ((rd_T48 l1 x8_2).f3)] 48 (0, 0)) (by (with_reducible repeat (first | refine blk_drewN ?_ _ | refine blk_drew ?_ | refine blk_alloc ?_ _)); exact BK712.out) NB712_704.out (by simp)); have n3_ := Aside0.mk (KeepBut.blk hk (g' := gb723) (o := .cells #[.int .u64 t714, .slice Ao29 t715.length co29, .slice Ao30 t718.length co30] 50 (0, 0)) (by (with_reducible repeat (first | refine blk_drewN ?_ _ | refine blk_drew ?_ | refine blk_alloc ?_ _)); exact BK723.out) NB723_704.out (by simp)); have n4_ := Aside0.mk (hb); have n5_ := Aside0.mk (hi); clear HO_724001; clear HO_724002; clear BK712; clear BK723; clear HB; clear HI704; have HO_724001 := n0_; have HO_724002 := n1_; have BK712 := n2_; have BK723 := n3_; have HB := n4_; have HI704 := n5_; clear n0_ n1_ n2_ n3_ n4_ n5_; (try clear hb); (try clear hb2); (try clear hk); (try clear hi)) | ((with_reducible refine gate_callee (f := 42) rfl ?_); refine goesL_ (some 113) rfl rfl Try.func42 (by kernel_rfl) rfl #[.pointer (some ⟨g704, 0, none⟩)] rfl (by (try simp only [List.map_toArray, List.map_cons, List.map_nil]); first | done | rfl | (simp only [List.length_drop, List.length_take]; rfl)) ?_; (with_reducible refine (cursor_Reader_Left.calls g704 t701 t746 t747 t748 t749 t750 w _ ?side1 ?side2 A77.out).mono ?_); (case side1 => repeat (first | (with_reducible first | exact HI704.out | apply IsS46.alloc | apply IsS46.drewN | apply IsS46.drew | apply IsS46.set_1 | apply IsS46.set_2 | refine IsS46.far ?_ NB704_712.out _ | refine IsS46.far ?_ NB704_723.out _) | exact HI704.out)); (case side2 => repeat (first | (with_reducible first | exact HB.out | apply below_alloc | apply pw_below_drewN | apply below_drew1 | refine below_set ?_ (IsS46.ge HI704.out) | refine below_set ?_ GE712.out | refine below_set ?_ GE723.out) | exact HB.out)); rintro e w85 ⟨rfl, hi, hb, hk⟩; refine ⟨_, rfl, ?_⟩; have n0_ := Aside0.mk (Kd.R_mono (Kd.R_keep (IsS46.apart (show IsS46 w _ g704 t701 t746 t747 from by repeat (first | (with_reducible first | exact HI704.out | apply IsS46.alloc | apply IsS46.drewN | apply IsS46.drew | apply IsS46.set_1 | apply IsS46.set_2 | refine IsS46.far ?_ NB704_712.out _ | refine IsS46.far ?_ NB704_723.out _) | exact HI704.out)) (by (with_reducible repeat (first | apply Kd.R_alloc | apply Kd.R_drewN | apply Kd.R_drew)); exact HO_724001.out) (by decide)) hk (fun _ h => h.2)) (fun _ h => h.1)); have n1_ := Aside0.mk (Kd.R_mono (Kd.R_keep (IsS46.apart (show IsS46 w _ g704 t701 t746 t747 from by repeat (first | (with_reducible first | exact HI704.out | apply IsS46.alloc | apply IsS46.drewN | apply IsS46.drew | apply IsS46.set_1 | apply IsS46.set_2 | refine IsS46.far ?_ NB704_712.out _ | refine IsS46.far ?_ NB704_723.out _) | exact HI704.out)) (by (with_reducible repeat (first | apply Kd.R_alloc | apply Kd.R_drewN | apply Kd.R_drew)); exact HO_724002.out) (by decide)) hk (fun _ h => h.2)) (fun _ h => h.1)); have n2_ := Aside0.mk (KeepBut.blk hk (g' := gb712) (o := .cells #[.int .i64 ((rd_T48 l1 x8_2).f0), .int .i64 t713, .int .i64 ((rd_T48 l1 x8_2).f2), .int .i64 ((rd_T48 l1 x8_2).f3)] 48 (0, 0)) (by (with_reducible repeat (first | refine blk_drewN ?_ _ | refine blk_drew ?_ | refine blk_alloc ?_ _)); exact BK712.out) NB712_704.out (by simp)); have n3_ := Aside0.mk (KeepBut.blk hk (g' := gb723) (o := .cells #[.int .u64 t714, .slice Ao29 t715.length co29, .slice Ao30 t718.length co30] 50 (0, 0)) (by (with_reducible repeat (first | refine blk_drewN ?_ _ | refine blk_drew ?_ | refine blk_alloc ?_ _)); exact BK723.out) NB723_704.out (by simp)); have n4_ := Aside0.mk (hb); have n5_ := Aside0.mk (hi); clear HO_724001; clear HO_724002; clear BK712; clear BK723; clear HB; clear HI704; have HO_724001 := n0_; have HO_724002 := n1_; have BK712 := n2_; have BK723 := n3_; have HB := n4_; have HI704 := n5_; clear n0_ n1_ n2_ n3_ n4_ n5_; (try clear hb); (try clear hb2); (try clear hk); (try clear hi)) | (go_at_call 37; (with_reducible refine (cursor_Reader_End.calls g704 t701 t749 t750 t751 t752 t753 w _ ?side1 ?side2 A79.out).mono ?_); (case side1 => repeat (first | (with_reducible first | exact HI704.out | apply IsS46.alloc | apply IsS46.drewN | apply IsS46.drew | apply IsS46.set_1 | apply IsS46.set_2 | refine IsS46.far ?_ NB704_712.out _ | refine IsS46.far ?_ NB704_723.out _) | exact HI704.out)); (case side2 => repeat (first | (with_reducible first | exact HB.out | apply below_alloc | apply pw_below_drewN | apply below_drew1 | refine below_set ?_ (IsS46.ge HI704.out) | refine below_set ?_ GE712.out | refine below_set ?_ GE723.out) | exact HB.out)); rintro e w86 ⟨rfl, hi, hb, hk⟩; (try clear A79); have n0_ := Aside0.mk (Kd.R_mono (Kd.R_keep (IsS46.apart (show IsS46 w _ g704 t701 t749 t750 from by repeat (first | (with_reducible first | exact HI704.out | apply IsS46.alloc | apply IsS46.drewN | apply IsS46.drew | apply IsS46.set_1 | apply IsS46.set_2 | refine IsS46.far ?_ NB704_712.out _ | refine IsS46.far ?_ NB704_723.out _) | exact HI704.out)) (by (with_reducible repeat (first | apply Kd.R_alloc | apply Kd.R_drewN | apply Kd.R_drew)); exact HO_724001.out) (by decide)) hk (fun _ h => h.2)) (fun _ h => h.1)); have n1_ := Aside0.mk (Kd.R_mono (Kd.R_keep (IsS46.apart (show IsS46 w _ g704 t701 t749 t750 from by repeat (first | (with_reducible first | exact HI704.out | apply IsS46.alloc | apply IsS46.drewN | apply IsS46.drew | apply IsS46.set_1 | apply IsS46.set_2 | refine IsS46.far ?_ NB704_712.out _ | refine IsS46.far ?_ NB704_723.out _) | exact HI704.out)) (by (with_reducible repeat (first | apply Kd.R_alloc | apply Kd.R_drewN | apply Kd.R_drew)); exact HO_724002.out) (by decide)) hk (fun _ h => h.2)) (fun _ h => h.1)); have n2_ := Aside0.mk (KeepBut.blk hk (g' := gb712) (o := .cells #[.int .i64 ((rd_T48 l1 x8_2).f0), .int .i64 t713, .int .i64 ((rd_T48 l1 x8_2).f2), .int .i64 ((rd_T48 l1 x8_2).f3)] 48 (0, 0)) (by (with_reducible repeat (first | refine blk_drewN ?_ _ | refine blk_drew ?_ | refine blk_alloc ?_ _)); exact BK712.out) NB712_704.out (by simp)); have n3_ := Aside0.mk (KeepBut.blk hk (g' := gb723) (o := .cells #[.int .u64 t714, .slice Ao29 t715.length co29, .slice Ao30 t718.length co30] 50 (0, 0)) (by (with_reducible repeat (first | refine blk_drewN ?_ _ | refine blk_drew ?_ | refine blk_alloc ?_ _)); exact BK723.out) NB723_704.out (by simp)); have n4_ := Aside0.mk (hb); have n5_ := Aside0.mk (hi); clear HO_724001; clear HO_724002; clear BK712; clear BK723; clear HB; clear HI704; have HO_724001 := n0_; have HO_724002 := n1_; have BK712 := n2_; have BK723 := n3_; have HB := n4_; have HI704 := n5_; clear n0_ n1_ n2_ n3_ n4_ n5_; (try clear hb); (try clear hb2); (try clear hk); (try clear hi)))
                                            go_roundg kj67
                                            case measure => have := HJ5.out; have := HK2.out; have := HJ19.out; have := HJ41.out; have := HJ56.out; have := HJ67.out; omega
                                            case rel => exact ⟨(t748), (t745), (wrap64 (x8_2 + 1)), (t752), (t753), (by first | rfl | (simp; done) | (simp [*]; done)), (by first | rfl | (simp; done) | (simp [*]; done)), (by first | rfl | (simp; done) | (simp [*]; done)), H', ⟨by have := HJ5.out; have := HK2.out; have := HJ19.out; have := HJ41.out; have := HJ56.out; have := HJ67.out; omega⟩, ⟨by repeat (first | (with_reducible first | exact HI704.out | apply IsS46.alloc | apply IsS46.drewN | apply IsS46.drew | apply IsS46.set_1 | apply IsS46.set_2 | refine IsS46.far ?_ NB704_712.out _ | refine IsS46.far ?_ NB704_723.out _) | exact HI704.out)⟩, ⟨by repeat (first | (with_reducible first | exact HB.out | apply below_alloc | apply pw_below_drewN | apply below_drew1 | refine below_set ?_ (IsS46.ge HI704.out) | refine below_set ?_ GE712.out | refine below_set ?_ GE723.out) | exact HB.out)⟩⟩
                                        · rw [if_neg c78] at H
                                          have c78b0 : (t745 == 0) = false := beq_eq_false_iff_ne.mpr c78
                                          have c78b1 : (t745 != 0) = true := bne_iff_ne.mpr c78
                                          have H' := Aside0.mk H
                                          clear H
                                          go_wp2_with (first | ((with_reducible refine gate_callee (f := 43) rfl ?_); refine goesL_ (some 111) rfl rfl Try.func43 (by kernel_rfl) rfl #[.pointer (some ⟨g704, 0, none⟩)] rfl (by (try simp only [List.map_toArray, List.map_cons, List.map_nil]); first | done | rfl | (simp only [List.length_drop, List.length_take]; rfl)) ?_; (with_reducible refine (cursor_Reader_Fault.calls g704 t701 x705001_67 x705002_67 t745 t746 t747 w _ ?side1 ?side2 A76.out).mono ?_); (case side1 => repeat (first | (with_reducible first | exact HI704.out | apply IsS46.alloc | apply IsS46.drewN | apply IsS46.drew | apply IsS46.set_1 | apply IsS46.set_2 | refine IsS46.far ?_ NB704_712.out _ | refine IsS46.far ?_ NB704_723.out _) | exact HI704.out)); (case side2 => repeat (first | (with_reducible first | exact HB.out | apply below_alloc | apply pw_below_drewN | apply below_drew1 | refine below_set ?_ (IsS46.ge HI704.out) | refine below_set ?_ GE712.out | refine below_set ?_ GE723.out) | exact HB.out)); rintro e w87 ⟨rfl, hi, hb, hk⟩; refine ⟨_, rfl, ?_⟩; have n0_ := Aside0.mk (Kd.R_mono (Kd.R_keep (IsS46.apart (show IsS46 w _ g704 t701 x705001_67 x705002_67 from by repeat (first | (with_reducible first | exact HI704.out | apply IsS46.alloc | apply IsS46.drewN | apply IsS46.drew | apply IsS46.set_1 | apply IsS46.set_2 | refine IsS46.far ?_ NB704_712.out _ | refine IsS46.far ?_ NB704_723.out _) | exact HI704.out)) (by (with_reducible repeat (first | apply Kd.R_alloc | apply Kd.R_drewN | apply Kd.R_drew)); exact HO_724001.out) (by decide)) hk (fun _ h => h.2)) (fun _ h => h.1)); have n1_ := Aside0.mk (Kd.R_mono (Kd.R_keep (IsS46.apart (show IsS46 w _ g704 t701 x705001_67 x705002_67 from by repeat (first | (with_reducible first | exact HI704.out | apply IsS46.alloc | apply IsS46.drewN | apply IsS46.drew | apply IsS46.set_1 | apply IsS46.set_2 | refine IsS46.far ?_ NB704_712.out _ | refine IsS46.far ?_ NB704_723.out _) | exact HI704.out)) (by (with_reducible repeat (first | apply Kd.R_alloc | apply Kd.R_drewN | apply Kd.R_drew)); exact HO_724002.out) (by decide)) hk (fun _ h => h.2)) (fun _ h => h.1)); have n2_ := Aside0.mk (KeepBut.blk hk (g' := gb712) (o := .cells #[.int .i64 ((rd_T48 l1 x8_2).f0), .int .i64 t713, .int .i64 ((rd_T48 l1 x8_2).f2), .int .i64 ((rd_T48 l1 x8_2).f3)] 48 (0, 0)) (by (with_reducible repeat (first | refine blk_drewN ?_ _ | refine blk_drew ?_ | refine blk_alloc ?_ _)); exact BK712.out) NB712_704.out (by simp)); have n3_ := Aside0.mk (KeepBut.blk hk (g' := gb723) (o := .cells #[.int .u64 t714, .slice Ao29 t715.length co29, .slice Ao30 t718.length co30] 50 (0, 0)) (by (with_reducible repeat (first | refine blk_drewN ?_ _ | refine blk_drew ?_ | refine blk_alloc ?_ _)); exact BK723.out) NB723_704.out (by simp)); have n4_ := Aside0.mk (hb); have n5_ := Aside0.mk (hi); clear HO_724001; clear HO_724002; clear BK712; clear BK723; clear HB; clear HI704; have HO_724001 := n0_; have HO_724002 := n1_; have BK712 := n2_; have BK723 := n3_; have HB := n4_; have HI704 := n5_; clear n0_ n1_ n2_ n3_ n4_ n5_; (try clear hb); (try clear hb2); (try clear hk); (try clear hi)) | ((with_reducible refine gate_callee (f := 42) rfl ?_); refine goesL_ (some 113) rfl rfl Try.func42 (by kernel_rfl) rfl #[.pointer (some ⟨g704, 0, none⟩)] rfl (by (try simp only [List.map_toArray, List.map_cons, List.map_nil]); first | done | rfl | (simp only [List.length_drop, List.length_take]; rfl)) ?_; (with_reducible refine (cursor_Reader_Left.calls g704 t701 t746 t747 t748 t749 t750 w _ ?side1 ?side2 A77.out).mono ?_); (case side1 => repeat (first | (with_reducible first | exact HI704.out | apply IsS46.alloc | apply IsS46.drewN | apply IsS46.drew | apply IsS46.set_1 | apply IsS46.set_2 | refine IsS46.far ?_ NB704_712.out _ | refine IsS46.far ?_ NB704_723.out _) | exact HI704.out)); (case side2 => repeat (first | (with_reducible first | exact HB.out | apply below_alloc | apply pw_below_drewN | apply below_drew1 | refine below_set ?_ (IsS46.ge HI704.out) | refine below_set ?_ GE712.out | refine below_set ?_ GE723.out) | exact HB.out)); rintro e w88 ⟨rfl, hi, hb, hk⟩; refine ⟨_, rfl, ?_⟩; have n0_ := Aside0.mk (Kd.R_mono (Kd.R_keep (IsS46.apart (show IsS46 w _ g704 t701 t746 t747 from by repeat (first | (with_reducible first | exact HI704.out | apply IsS46.alloc | apply IsS46.drewN | apply IsS46.drew | apply IsS46.set_1 | apply IsS46.set_2 | refine IsS46.far ?_ NB704_712.out _ | refine IsS46.far ?_ NB704_723.out _) | exact HI704.out)) (by (with_reducible repeat (first | apply Kd.R_alloc | apply Kd.R_drewN | apply Kd.R_drew)); exact HO_724001.out) (by decide)) hk (fun _ h => h.2)) (fun _ h => h.1)); have n1_ := Aside0.mk (Kd.R_mono (Kd.R_keep (IsS46.apart (show IsS46 w _ g704 t701 t746 t747 from by repeat (first | (with_reducible first | exact HI704.out | apply IsS46.alloc | apply IsS46.drewN | apply IsS46.drew | apply IsS46.set_1 | apply IsS46.set_2 | refine IsS46.far ?_ NB704_712.out _ | refine IsS46.far ?_ NB704_723.out _) | exact HI704.out)) (by (with_reducible repeat (first | apply Kd.R_alloc | apply Kd.R_drewN | apply Kd.R_drew)); exact HO_724002.out) (by decide)) hk (fun _ h => h.2)) (fun _ h => h.1)); have n2_ := Aside0.mk (KeepBut.blk hk (g' := gb712) (o := .cells #[.int .i64 ((rd_T48 l1 x8_2).f0), .int .i64 t713, .int .i64 ((rd_T48 l1 x8_2).f2), .int .i64 ((rd_T48 l1 x8_2).f3)] 48 (0, 0)) (by (with_reducible repeat (first | refine blk_drewN ?_ _ | refine blk_drew ?_ | refine blk_alloc ?_ _)); exact BK712.out) NB712_704.out (by simp)); have n3_ := Aside0.mk (KeepBut.blk hk (g' := gb723) (o := .cells #[.int .u64 t714, .slice Ao29 t715.length co29, .slice Ao30 t718.length co30] 50 (0, 0)) (by (with_reducible repeat (first | refine blk_drewN ?_ _ | refine blk_drew ?_ | refine blk_alloc ?_ _)); exact BK723.out) NB723_704.out (by simp)); have n4_ := Aside0.mk (hb); have n5_ := Aside0.mk (hi); clear HO_724001; clear HO_724002; clear BK712; clear BK723; clear HB; clear HI704; have HO_724001 := n0_; have HO_724002 := n1_; have BK712 := n2_; have BK723 := n3_; have HB := n4_; have HI704 := n5_; clear n0_ n1_ n2_ n3_ n4_ n5_; (try clear hb); (try clear hb2); (try clear hk); (try clear hi)))
                                          go_roundg kj67
                                          case measure => have := HJ5.out; have := HK2.out; have := HJ19.out; have := HJ41.out; have := HJ56.out; have := HJ67.out; omega
                                          case rel => exact ⟨(t748), (t745), (wrap64 (x8_2 + 1)), (t749), (t750), (by first | rfl | (simp; done) | (simp [*]; done)), (by first | rfl | (simp; done) | (simp [*]; done)), (by first | rfl | (simp; done) | (simp [*]; done)), H', ⟨by have := HJ5.out; have := HK2.out; have := HJ19.out; have := HJ41.out; have := HJ56.out; have := HJ67.out; omega⟩, ⟨by repeat (first | (with_reducible first | exact HI704.out | apply IsS46.alloc | apply IsS46.drewN | apply IsS46.drew | apply IsS46.set_1 | apply IsS46.set_2 | refine IsS46.far ?_ NB704_712.out _ | refine IsS46.far ?_ NB704_723.out _) | exact HI704.out)⟩, ⟨by repeat (first | (with_reducible first | exact HB.out | apply below_alloc | apply pw_below_drewN | apply below_drew1 | refine below_set ?_ (IsS46.ge HI704.out) | refine below_set ?_ GE712.out | refine below_set ?_ GE723.out) | exact HB.out)⟩⟩
                · rw [if_neg c17] at H
                  exact absurd H (by simp)
              · rw [if_neg c16] at H
                have c16b0 : decide (x8_2 < (l1.length : Int)) = false := decide_eq_false c16
                clear c16
                obtain rfl := Option.some.inj H
                go_wp2
                go_ret
                exact ⟨by first | rfl | (simp [errW_none, errW_some] <;> rfl) | (simp [*, errW_none, errW_some] <;> rfl), HQ.out _ (by repeat (first | (with_reducible first | exact HB.out | apply below_alloc | apply pw_below_drewN | apply below_drew1 | refine below_set ?_ (IsS46.ge HI704.out)) | exact HB.out))⟩
  · replace c4 := Bool.eq_false_iff.mpr c4
    subst c4
    have H1 : (some false) = some r := by rw [if_neg (show ¬ (false = true) by decide)] at H; exact H
    exact absurd ((Option.some.inj H1).trans htrue.out) (by decide)
theorem colonnadelaw07_CursorSticky.calls (k : Nat) (A0 : Option Addr) (c0 : Nat) (l0 : List Int) (A1 : Option Addr) (c1 : Nat) (l1 : List (S48)) (r : Bool) (w : World) (hr0 : Kd.C (Kd.int .u8) w A0 l0.length l0) (hc0 : l0.length ≤ c0) (hr1 : Kd.C k48 w A1 l1.length l1) (hc1 : l1.length ≤ c1) (h : colonnadelaw07_CursorSticky.f k l0 l1 = some r) (htrue : Aside0 (r = true)) :
    Calls Try.prog 8 #[.slice A0 l0.length c0, .slice A1 l1.length c1] w fun e w' => e = .returned (.bool r) ∧ Below w.heap.size w w' := colonnadelaw07_CursorSticky.callsQ k A0 c0 l0 A1 c1 l1 r w hr0 hc0 hr1 hc1 h htrue (fun w' => Below w.heap.size w w') ⟨fun _ h => h⟩
end Go.Proofs.Ythpoomdillhcbaa.Pa
