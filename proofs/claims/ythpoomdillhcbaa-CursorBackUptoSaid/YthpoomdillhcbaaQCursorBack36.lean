/- The texts of CursorBack, merged: part 36. -/
import Derived.Test.YthpoomdillhcbaaQCursorBack33
import Derived.Test.YthpoomdillhcbaaQCursorBack5
import Derived.Test.YthpoomdillhcbaaQCursorBack15
import Derived.Test.YthpoomdillhcbaaQCursorBack32
import Derived.Test.YthpoomdillhcbaaQCursorBack34
import Derived.Test.YthpoomdillhcbaaQCursorBack31
import Derived.Test.YthpoomdillhcbaaQCursorBack35
import Derived.Test.YthpoomdillhcbaaQCursorBack16
-- Written by xprint.py, a program of this session, over the kit's print. Not trusted: Lean checks it.
namespace Go.Proofs.Ythpoomdillhcbaa.Pa
open Go.RowKit Go.Proofs.YthpoomdillhcbaaW.PrintWords Go.Proofs.YthpoomdillhcbaaW.PrintLast Go.Proofs.YthpoomdillhcbaaW.PrintMore
attribute [local go_sem] max2_int min2_int max_two min_two max_three min_three max_four min_four   -- for this text's walks alone
attribute [local go_sem] run_store_float cmp_feq cmp_fne cmp_flt cmp_fle cmp_fgt cmp_fge un_fneg equalIn_feq run_fop run_fint run_freal cmp_sgt
set_option linter.unusedVariables false
set_option linter.unusedSimpArgs false

/-! ### colonnadelaw07_CursorBack: function 9 -/
mutual
def colonnadelaw07_CursorBack.l0 : Nat → List (S76) → Int → List Int → Int → Option (Bool)
  | 0, _, _, _, _ => none
  | k + 1, x0, x1, x5, x6 => if x6 < (x0.length : Int) then (if 0 ≤ x6 then ((colonnadelaw07_put.f k x5 ((rd_T76 x0 x6).f0) ((rd_T76 x0 x6).f1) ((rd_T76 x0 x6).f2) ((rd_T76 x0 x6).f3) ((rd_T76 x0 x6).f4)).bind fun t820 => (colonnadelaw07_CursorBack.l0 k x0 x1 t820 (wrap64 (x6 + 1)))) else (none)) else ((cursor_Open.f x5).bind fun bt823 => (colonnadelaw07_CursorBack.l1 k x0 x1 x5 0 bt823.1 bt823.2.1 bt823.2.2))
def colonnadelaw07_CursorBack.l1 : Nat → List (S76) → Int → List Int → Int → List Int → Int → Int → Option (Bool)
  | 0, _, _, _, _, _, _, _ => none
  | k + 1, x0, x1, x5, x8, x827000, x827001, x827002 => if x8 < (x0.length : Int) then (if 0 ≤ x8 then ((colonnadelaw07_back.f k x827000 x827001 x827002 ((rd_T76 x0 x8).f0) ((rd_T76 x0 x8).f1) ((rd_T76 x0 x8).f2) ((rd_T76 x0 x8).f3) ((rd_T76 x0 x8).f4)).bind fun bt828 => (if bt828.1 = true then ((cursor_Reader_Fault.f x827000 bt828.2.1 bt828.2.2).bind fun bt831 => (if bt831.1 = 0 then (colonnadelaw07_CursorBack.l1 k x0 x1 x5 (wrap64 (x8 + 1)) x827000 bt831.2.1 bt831.2.2) else (some false))) else (some false))) else (none)) else ((cursor_Reader_Left.f x827000 x827001 x827002).bind fun bt834 => (if bt834.1 = 0 then ((cursor_Reader_End.f x827000 bt834.2.1 bt834.2.2).bind fun bt837 => (colonnadelaw07_CursorBack.j2 k x0 x1 x5 (bt837.1 != 0))) else (colonnadelaw07_CursorBack.j2 k x0 x1 x5 true)))
def colonnadelaw07_CursorBack.j2 : Nat → List (S76) → Int → List Int → Bool → Option (Bool)
  | 0, _, _, _, _ => none
  | k + 1, x0, x1, x5, x52 => if x52 = true then (some false) else (if (x5.length : Int) = 0 then (some ((x0.length : Int) == 0)) else ((colonnadelaw07_pick.f x1 (x5.length : Int)).bind fun t840 => (if 0 ≤ t840 then (if t840 ≤ (x5.length : Int) then ((cursor_Open.f (x5.take (t840 : Int).toNat)).bind fun bt845 => (colonnadelaw07_CursorBack.l2 k x0 0 bt845.1 bt845.2.1 bt845.2.2)) else (none)) else (none))))
def colonnadelaw07_CursorBack.l2 : Nat → List (S76) → Int → List Int → Int → Int → Option (Bool)
  | 0, _, _, _, _, _ => none
  | k + 1, x0, x9, x849000, x849001, x849002 => if x9 < (x0.length : Int) then (if 0 ≤ x9 then ((colonnadelaw07_back.f k x849000 x849001 x849002 ((rd_T76 x0 x9).f0) ((rd_T76 x0 x9).f1) ((rd_T76 x0 x9).f2) ((rd_T76 x0 x9).f3) ((rd_T76 x0 x9).f4)).bind fun bt850 => ((cursor_Reader_Fault.f x849000 bt850.2.1 bt850.2.2).bind fun bt853 => (if bt853.1 = 71 then ((cursor_Reader_End.f x849000 bt853.2.1 bt853.2.2).bind fun bt856 => (some (bt856.1 == 71))) else (if bt850.1 = true then ((cursor_Reader_Fault.f x849000 bt853.2.1 bt853.2.2).bind fun bt859 => (if bt859.1 = 0 then (colonnadelaw07_CursorBack.l2 k x0 (wrap64 (x9 + 1)) x849000 bt859.2.1 bt859.2.2) else (some false))) else (some false))))) else (none)) else (some false)
end
def colonnadelaw07_CursorBack.f (k : Nat) (l0 : List (S76)) (a1 : Int) : Option (Bool) := (colonnadelaw07_awake.f k).bind fun t818 => (if t818 = true then (colonnadelaw07_CursorBack.l0 k l0 a1 ([] : List Int) 0) else (some false))
theorem colonnadelaw07_CursorBack.mono_l : ∀ k, (∀ y0 y1 y2 y3, LeO (colonnadelaw07_CursorBack.l0 k y0 y1 y2 y3) (colonnadelaw07_CursorBack.l0 (k + 1) y0 y1 y2 y3)) ∧ (∀ y0 y1 y2 y3 y4 y5 y6, LeO (colonnadelaw07_CursorBack.l1 k y0 y1 y2 y3 y4 y5 y6) (colonnadelaw07_CursorBack.l1 (k + 1) y0 y1 y2 y3 y4 y5 y6)) ∧ (∀ y0 y1 y2 y3, LeO (colonnadelaw07_CursorBack.j2 k y0 y1 y2 y3) (colonnadelaw07_CursorBack.j2 (k + 1) y0 y1 y2 y3)) ∧ (∀ y0 y1 y2 y3 y4, LeO (colonnadelaw07_CursorBack.l2 k y0 y1 y2 y3 y4) (colonnadelaw07_CursorBack.l2 (k + 1) y0 y1 y2 y3 y4))
  | 0 => ⟨fun _ _ _ _ r h => by simp [colonnadelaw07_CursorBack.l0] at h, fun _ _ _ _ _ _ _ r h => by simp [colonnadelaw07_CursorBack.l1] at h, fun _ _ _ _ r h => by simp [colonnadelaw07_CursorBack.j2] at h, fun _ _ _ _ _ r h => by simp [colonnadelaw07_CursorBack.l2] at h⟩
  | k + 1 => by
    obtain ⟨ih0, ih1, ih2, ih3⟩ := colonnadelaw07_CursorBack.mono_l k
    refine ⟨?_, ?_, ?_, ?_⟩
    · intro y0 y1 y2 y3
      unfold colonnadelaw07_CursorBack.l0
      repeat' first
      | (with_reducible exact ih0 _ _ _ _)
      | (with_reducible exact ih1 _ _ _ _ _ _ _)
      | (with_reducible exact ih2 _ _ _ _)
      | (with_reducible exact ih3 _ _ _ _ _)
      | (with_reducible exact colonnadelaw07_awake.mono _)
      | (with_reducible exact colonnadelaw07_back.mono _ _ _ _ _ _ _ _ _)
      | (with_reducible exact colonnadelaw07_put.mono _ _ _ _ _ _ _)
      | (with_reducible exact LeO.refl _)
      | (with_reducible exact LeO.none _)
      | (with_reducible refine LeO.ite ?_ ?_)
      | (with_reducible refine LeO.bind ?_ (fun _ => ?_))
      | exact ih0 _ _ _ _
      | exact ih1 _ _ _ _ _ _ _
      | exact ih2 _ _ _ _
      | exact ih3 _ _ _ _ _
      | exact colonnadelaw07_awake.mono _
      | exact colonnadelaw07_back.mono _ _ _ _ _ _ _ _ _
      | exact colonnadelaw07_put.mono _ _ _ _ _ _ _
      | exact LeO.none _
      | refine LeO.ite ?_ ?_
      | refine LeO.bind ?_ (fun _ => ?_)
    · intro y0 y1 y2 y3 y4 y5 y6
      unfold colonnadelaw07_CursorBack.l1
      repeat' first
      | (with_reducible exact ih0 _ _ _ _)
      | (with_reducible exact ih1 _ _ _ _ _ _ _)
      | (with_reducible exact ih2 _ _ _ _)
      | (with_reducible exact ih3 _ _ _ _ _)
      | (with_reducible exact colonnadelaw07_awake.mono _)
      | (with_reducible exact colonnadelaw07_back.mono _ _ _ _ _ _ _ _ _)
      | (with_reducible exact colonnadelaw07_put.mono _ _ _ _ _ _ _)
      | (with_reducible exact LeO.refl _)
      | (with_reducible exact LeO.none _)
      | (with_reducible refine LeO.ite ?_ ?_)
      | (with_reducible refine LeO.bind ?_ (fun _ => ?_))
      | exact ih0 _ _ _ _
      | exact ih1 _ _ _ _ _ _ _
      | exact ih2 _ _ _ _
      | exact ih3 _ _ _ _ _
      | exact colonnadelaw07_awake.mono _
      | exact colonnadelaw07_back.mono _ _ _ _ _ _ _ _ _
      | exact colonnadelaw07_put.mono _ _ _ _ _ _ _
      | exact LeO.none _
      | refine LeO.ite ?_ ?_
      | refine LeO.bind ?_ (fun _ => ?_)
    · intro y0 y1 y2 y3
      unfold colonnadelaw07_CursorBack.j2
      repeat' first
      | (with_reducible exact ih0 _ _ _ _)
      | (with_reducible exact ih1 _ _ _ _ _ _ _)
      | (with_reducible exact ih2 _ _ _ _)
      | (with_reducible exact ih3 _ _ _ _ _)
      | (with_reducible exact colonnadelaw07_awake.mono _)
      | (with_reducible exact colonnadelaw07_back.mono _ _ _ _ _ _ _ _ _)
      | (with_reducible exact colonnadelaw07_put.mono _ _ _ _ _ _ _)
      | (with_reducible exact LeO.refl _)
      | (with_reducible exact LeO.none _)
      | (with_reducible refine LeO.ite ?_ ?_)
      | (with_reducible refine LeO.bind ?_ (fun _ => ?_))
      | exact ih0 _ _ _ _
      | exact ih1 _ _ _ _ _ _ _
      | exact ih2 _ _ _ _
      | exact ih3 _ _ _ _ _
      | exact colonnadelaw07_awake.mono _
      | exact colonnadelaw07_back.mono _ _ _ _ _ _ _ _ _
      | exact colonnadelaw07_put.mono _ _ _ _ _ _ _
      | exact LeO.none _
      | refine LeO.ite ?_ ?_
      | refine LeO.bind ?_ (fun _ => ?_)
    · intro y0 y1 y2 y3 y4
      unfold colonnadelaw07_CursorBack.l2
      repeat' first
      | (with_reducible exact ih0 _ _ _ _)
      | (with_reducible exact ih1 _ _ _ _ _ _ _)
      | (with_reducible exact ih2 _ _ _ _)
      | (with_reducible exact ih3 _ _ _ _ _)
      | (with_reducible exact colonnadelaw07_awake.mono _)
      | (with_reducible exact colonnadelaw07_back.mono _ _ _ _ _ _ _ _ _)
      | (with_reducible exact colonnadelaw07_put.mono _ _ _ _ _ _ _)
      | (with_reducible exact LeO.refl _)
      | (with_reducible exact LeO.none _)
      | (with_reducible refine LeO.ite ?_ ?_)
      | (with_reducible refine LeO.bind ?_ (fun _ => ?_))
      | exact ih0 _ _ _ _
      | exact ih1 _ _ _ _ _ _ _
      | exact ih2 _ _ _ _
      | exact ih3 _ _ _ _ _
      | exact colonnadelaw07_awake.mono _
      | exact colonnadelaw07_back.mono _ _ _ _ _ _ _ _ _
      | exact colonnadelaw07_put.mono _ _ _ _ _ _ _
      | exact LeO.none _
      | refine LeO.ite ?_ ?_
      | refine LeO.bind ?_ (fun _ => ?_)
theorem colonnadelaw07_CursorBack.mono : ∀ a0 a1 k, LeO (colonnadelaw07_CursorBack.f k a0 a1) (colonnadelaw07_CursorBack.f (k + 1) a0 a1) := by
  intro a0 a1 k
  obtain ⟨ih0, ih1, ih2, ih3⟩ := colonnadelaw07_CursorBack.mono_l k
  unfold colonnadelaw07_CursorBack.f
  repeat' first
      | (with_reducible exact ih0 _ _ _ _)
      | (with_reducible exact ih1 _ _ _ _ _ _ _)
      | (with_reducible exact ih2 _ _ _ _)
      | (with_reducible exact ih3 _ _ _ _ _)
      | (with_reducible exact colonnadelaw07_awake.mono _)
      | (with_reducible exact colonnadelaw07_back.mono _ _ _ _ _ _ _ _ _)
      | (with_reducible exact colonnadelaw07_put.mono _ _ _ _ _ _ _)
      | (with_reducible exact LeO.refl _)
      | (with_reducible exact LeO.none _)
      | (with_reducible refine LeO.ite ?_ ?_)
      | (with_reducible refine LeO.bind ?_ (fun _ => ?_))
      | exact ih0 _ _ _ _
      | exact ih1 _ _ _ _ _ _ _
      | exact ih2 _ _ _ _
      | exact ih3 _ _ _ _ _
      | exact colonnadelaw07_awake.mono _
      | exact colonnadelaw07_back.mono _ _ _ _ _ _ _ _ _
      | exact colonnadelaw07_put.mono _ _ _ _ _ _ _
      | exact LeO.none _
      | refine LeO.ite ?_ ?_
      | refine LeO.bind ?_ (fun _ => ?_)
theorem colonnadelaw07_CursorBack.j2_dead {k : Nat} {y0 : List (S76)} {y1 : Int} {y2 : List Int} {r : Bool} (h : colonnadelaw07_CursorBack.j2 k y0 y1 y2 true = some r) : false = r := by
  cases k with
  | zero => rw [colonnadelaw07_CursorBack.j2] at h; cases h
  | succ k => rw [colonnadelaw07_CursorBack.j2, if_pos rfl] at h; exact Option.some.inj h
set_option maxHeartbeats 8000000 in
set_option maxRecDepth 100000 in
theorem colonnadelaw07_CursorBack.calls (k : Nat) (A0 : Option Addr) (c0 : Nat) (l0 : List (S76)) (a1 : Int) (r : Bool) (w : World) (hr0 : Kd.C k76 w A0 l0.length l0) (hc0 : l0.length ≤ c0) (h : colonnadelaw07_CursorBack.f k l0 a1 = some r) (htrue : Aside0 (r = true)) :
    Calls Try.prog 9 #[.slice A0 l0.length c0, .int .i64 a1] w fun e w' => e = .returned (.bool r) ∧ Below w.heap.size w w' := by
  have hu76 := Try.underlying76
  have HR0 := Aside0.mk hr0
  have HC0 := Aside0.mk hc0
  clear hr0 hc0
  have HB := Aside0.mk (Below.refl w.heap.size w)
  have H : ((colonnadelaw07_awake.f k).bind fun t818 => (if t818 = true then (colonnadelaw07_CursorBack.l0 k l0 a1 ([] : List Int) 0) else (some false))) = some r := h
  clear h
  replace H := Option.bind_eq_some_iff.mp H
  obtain ⟨t818, A30, H⟩ := H
  replace H : (if t818 = true then (colonnadelaw07_CursorBack.l0 k l0 a1 ([] : List Int) 0) else (some false)) = some r := H
  have A3 := Aside0.mk A30
  clear A30
  by_cases c4 : t818 = true
  · subst c4
    have H1 : (colonnadelaw07_CursorBack.l0 k l0 a1 ([] : List Int) 0) = some r := by rw [if_pos rfl] at H; exact H
    clear H
    have H := H1
    clear H1
    have H' := Aside0.mk H
    clear H
    go_enter Try.func9, Try.ntmps9
    go_wp2_with (first | ((with_reducible refine gate_callee (f := 27) rfl ?_); refine goesL_ (some 11) rfl rfl Try.func27 (by kernel_rfl) rfl #[] rfl (by (try simp only [List.map_toArray, List.map_cons, List.map_nil]); first | done | rfl | (simp only [List.length_drop, List.length_take]; rfl)) ?_; (with_reducible refine (colonnadelaw07_awake.calls k  true _ A3.out).mono ?_); rintro e w5 ⟨rfl, hb⟩; refine ⟨_, rfl, ?_⟩; have n0_ := Aside0.mk (below_step (by repeat (first | (with_reducible first | exact HB.out | apply below_alloc | apply pw_below_drewN | apply below_drew1) | exact HB.out)) hb); clear HB; have HB := n0_; clear n0_; (try clear hb); (try clear hb2); (try clear hk); (try clear hi)))
    go_loopg [5, 6] k (fun kq v5 v6 w' => ∃ (x5_1 : List Int) (x6_1 : Int), v6 = .int .i64 x6_1 ∧ Aside0 (colonnadelaw07_CursorBack.l0 kq l0 a1 x5_1 x6_1 = some r) ∧ Aside0 (kq ≤ k) ∧ Aside0 (Kd.R (Kd.int .u8) 5 w' w.heap.size (fun _ => True) v5 x5_1) ∧ Aside0 (Below w.heap.size w w'))
    case atStart => exact ⟨(([] : List Int)), (0), (by first | rfl | (simp; done) | (simp [*]; done)), H', ⟨Nat.le_refl _⟩, ⟨by first | exact Kd.R_nil _ _ _ _ _ | exact Kd.N_nil _ _ _ _ _ | exact Kd.V_nil _ _ _ _ _ | exact Kd.Q_nil _ _ _ _ _ | exact Kd.S_nil _ _ _ _ _⟩, ⟨by repeat (first | (with_reducible first | exact HB.out | apply below_alloc | apply pw_below_drewN | apply below_drew1) | exact HB.out)⟩⟩
    case round =>
      clear H'
      try clear c2
      try clear p2
      try clear c4
      obtain ⟨x5_1, x6_1, rfl, HA, HK1, HO_5, HB⟩ := hrel
      cases gk with
      | zero => exact absurd HA.out (by simp [colonnadelaw07_CursorBack.l0])
      | succ k1 =>
        have H := HA.out
        clear HA
        simp only [colonnadelaw07_CursorBack.l0] at H
        by_cases c6 : x6_1 < (l0.length : Int)
        · rw [if_pos c6] at H
          have c6b0 : decide (x6_1 < (l0.length : Int)) = true := decide_eq_true c6
          clear c6
          by_cases c7 : 0 ≤ x6_1
          · rw [if_pos c7] at H
            have c7b0 : decide (0 ≤ x6_1) = true := decide_eq_true c7
            clear c7
            replace H := Option.bind_eq_some_iff.mp H
            obtain ⟨t820, A80, H⟩ := H
            replace H : (colonnadelaw07_CursorBack.l0 k1 l0 a1 t820 (wrap64 (x6_1 + 1))) = some r := H
            have A8 := Aside0.mk A80
            clear A80
            have H' := Aside0.mk H
            clear H
            have p819 : 0 ≤ (x6_1 : Int) := of_decide_eq_true (by first | (with_reducible assumption) | assumption)
            have q819 : x6_1 < (l0.length : Int) := of_decide_eq_true (by first | (with_reducible assumption) | assumption)
            obtain ⟨ad819, A819_3, c819_3, A819_4, c819_4, e819, hx819_0, hx819_1, hx819_2, hx819_3, hx819_4, hl819_3, hi819_3, hl819_4, hi819_4⟩ := at_T76 HR0.out x6_1 p819 q819
            cases e819
            replace hx819_0 := (HB.out.cell (World.block_lt_of_cell? w _ hx819_0)).trans hx819_0
            replace hx819_1 := (HB.out.cell (World.block_lt_of_cell? w _ hx819_1)).trans hx819_1
            replace hx819_2 := (HB.out.cell (World.block_lt_of_cell? w _ hx819_2)).trans hx819_2
            replace hx819_3 := (HB.out.cell (World.block_lt_of_cell? w _ hx819_3)).trans hx819_3
            replace hx819_4 := (HB.out.cell (World.block_lt_of_cell? w _ hx819_4)).trans hx819_4
            have HR819_3 := Aside0.mk hi819_3
            have HC819_3 := Aside0.mk hl819_3
            clear hi819_3 hl819_3
            have HR819_4 := Aside0.mk hi819_4
            have HC819_4 := Aside0.mk hl819_4
            clear hi819_4 hl819_4
            replace p819 := eq_true p819
            replace q819 := eq_true q819
            obtain ⟨Ao9, co9, eo9⟩ := Kd.R_slice HO_5.out
            subst eo9
            go_wp2_with (first | ((with_reducible refine gate_callee (f := 44) rfl ?_); refine goesL_ (some 24) rfl rfl Try.func44 (by kernel_rfl) rfl #[.slice Ao9 x5_1.length co9, .agg #[.int .i64 ((rd_T76 l0 x6_1).f0), .int .u64 ((rd_T76 l0 x6_1).f1), .int .i64 ((rd_T76 l0 x6_1).f2), .slice A819_3 ((rd_T76 l0 x6_1).f3).length c819_3, .slice A819_4 ((rd_T76 l0 x6_1).f4).length c819_4]] rfl (by (try simp only [List.map_toArray, List.map_cons, List.map_nil]); first | done | rfl | (simp only [List.length_drop, List.length_take]; rfl)) ?_; (with_reducible refine (colonnadelaw07_put.calls k1 _ _ x5_1 ((rd_T76 l0 x6_1).f0) ((rd_T76 l0 x6_1).f1) ((rd_T76 l0 x6_1).f2) _ _ ((rd_T76 l0 x6_1).f3) _ _ ((rd_T76 l0 x6_1).f4) t820 _ ?side1 ?side2 ?side3 ?side4 ?side5 ?side6 A8.out).mono ?_); (case side1 => repeat (first | exact (Kd.R_reads' HO_5.out).2.2 | (with_reducible refine Kd.C_alloc ?_ _) | (with_reducible refine Kd.C_drewN ?_ _) | (with_reducible refine Kd.C_drew ?_))); (case side2 => exact (Kd.R_reads' HO_5.out).2.1); (case side3 => repeat (first | exact (Kd.C_below HR819_3.out HB.out) | (with_reducible refine Kd.C_alloc ?_ _) | (with_reducible refine Kd.C_drewN ?_ _) | (with_reducible refine Kd.C_drew ?_))); (case side4 => exact HC819_3.out); (case side5 => repeat (first | exact (Kd.C_below HR819_4.out HB.out) | (with_reducible refine Kd.C_alloc ?_ _) | (with_reducible refine Kd.C_drewN ?_ _) | (with_reducible refine Kd.C_drew ?_))); (case side6 => exact HC819_4.out); rintro e w10 ⟨v821, rfl, ho0, hb⟩; refine ⟨_, rfl, ?_⟩; have n0_ := Aside0.mk (Kd.R_elder' (by (with_reducible repeat (first | apply Kd.R_alloc | apply Kd.R_drewN | apply Kd.R_drew)); exact HO_5.out) (Kd.R_base ho0) hb); have n1_ := Aside0.mk (Kd.R_lower (Kd.R_new' ho0 (Kd.R_lt (by (with_reducible repeat (first | apply Kd.R_alloc | apply Kd.R_drewN | apply Kd.R_drew)); exact HO_5.out))) (below_size (by repeat (first | (with_reducible first | exact HB.out | apply below_alloc | apply pw_below_drewN | apply below_drew1) | exact HB.out)))); have n2_ := Aside0.mk (below_step (by repeat (first | (with_reducible first | exact HB.out | apply below_alloc | apply pw_below_drewN | apply below_drew1) | exact HB.out)) hb); clear HO_5; clear HB; have HO_5 := n0_; have HO822 := n1_; have HB := n2_; clear n0_ n1_ n2_; (try clear hb); (try clear hb2); (try clear hk); (try clear hi); (try clear ho0)))
            go_roundg k1
            case measure => have := HK1.out; omega
            case rel => exact ⟨(t820), (wrap64 (x6_1 + 1)), (by first | rfl | (simp; done) | (simp [*]; done)), H', ⟨by have := HK1.out; omega⟩, ⟨by (with_reducible repeat (first | apply Kd.R_alloc | apply Kd.R_drewN | apply Kd.R_drew)); exact Kd.R_mono HO822.out (fun _ hk => trivial)⟩, ⟨by repeat (first | (with_reducible first | exact HB.out | apply below_alloc | apply pw_below_drewN | apply below_drew1) | exact HB.out)⟩⟩
          · rw [if_neg c7] at H
            exact absurd H (by simp)
        · rw [if_neg c6] at H
          have c6b0 : decide (x6_1 < (l0.length : Int)) = false := decide_eq_false c6
          clear c6
          replace H := Option.bind_eq_some_iff.mp H
          obtain ⟨⟨t823, t824, t825⟩, A110, H⟩ := H
          replace H : (colonnadelaw07_CursorBack.l1 k1 l0 a1 x5_1 0 t823 t824 t825) = some r := H
          have A11 := Aside0.mk A110
          clear A110
          have H' := Aside0.mk H
          clear H
          obtain ⟨Ao12, co12, eo12⟩ := Kd.R_slice HO_5.out
          subst eo12
          go_wp2_with (first | ((with_reducible refine gate_callee (f := 20) rfl ?_); refine goesL_ (some 26) rfl rfl Try.func20 (by kernel_rfl) rfl #[.slice Ao12 x5_1.length co12] rfl (by (try simp only [List.map_toArray, List.map_cons, List.map_nil]); first | done | rfl | (simp only [List.length_drop, List.length_take]; rfl)) ?_; (with_reducible refine (cursor_Open.callsB _ _ x5_1 t823 t824 t825 w _ ?side1 ?side2 ?side3 A11.out).mono ?_); (case side1 => repeat (first | (with_reducible first | exact HB.out | apply below_alloc | apply pw_below_drewN | apply below_drew1) | exact HB.out)); (case side2 => repeat (first | exact (Kd.R_reads' HO_5.out).2.2 | (with_reducible refine Kd.C_alloc ?_ _) | (with_reducible refine Kd.C_drewN ?_ _) | (with_reducible refine Kd.C_drew ?_))); (case side3 => exact (Kd.R_reads' HO_5.out).2.1); rintro e w13 ⟨g826, rfl, hi, hb, hb2⟩; refine ⟨_, rfl, ?_⟩; have n0_ := Aside0.mk (Kd.R_below (by (with_reducible repeat (first | apply Kd.R_alloc | apply Kd.R_drewN | apply Kd.R_drew)); exact HO_5.out) hb2); have n1_ := Aside0.mk (hb); have n2_ := Aside0.mk (hi); clear HO_5; clear HB; have HO_5 := n0_; have HB := n1_; have HI826 := n2_; clear n0_ n1_ n2_; (try clear hb); (try clear hb2); (try clear hk); (try clear hi)))
          go_loopg [8] k1 (fun kq v8 w' => ∃ (x8_2 : Int) (x827001_2 : Int) (x827002_2 : Int), v8 = .int .i64 x8_2 ∧ Aside0 (colonnadelaw07_CursorBack.l1 kq l0 a1 x5_1 x8_2 t823 x827001_2 x827002_2 = some r) ∧ Aside0 (kq ≤ k1) ∧ Aside0 (Kd.R (Kd.int .u8) 5 w' w.heap.size (fun _ => True) (.slice Ao12 x5_1.length co12) x5_1) ∧ Aside0 (IsB46 w w' g826 t823 x827001_2 x827002_2) ∧ Aside0 (Below w.heap.size w w'))
          case atStart => exact ⟨(0), (t824), (t825), (by first | rfl | (simp; done) | (simp [*]; done)), H', ⟨Nat.le_refl _⟩, ⟨by (with_reducible repeat (first | apply Kd.R_alloc | apply Kd.R_drewN | apply Kd.R_drew)); exact HO_5.out⟩, ⟨by repeat (first | (with_reducible first | exact HI826.out | apply IsB46.alloc | apply IsB46.drewN | apply IsB46.drew | apply IsB46.set_1 | apply IsB46.set_2) | exact HI826.out)⟩, ⟨by repeat (first | (with_reducible first | exact HB.out | apply below_alloc | apply pw_below_drewN | apply below_drew1 | refine below_set ?_ (IsB46.ge HI826.out)) | exact HB.out)⟩⟩
          case round =>
            clear H'
            try clear c2
            try clear p2
            try clear c4
            try clear c6
            try clear c6b0
            try clear p6
            try clear c7
            try clear c7b0
            try clear c8
            try clear p8
            try clear q8
            try clear hx8
            try clear c9
            try clear hx819_0
            try clear hx819_1
            try clear hx819_2
            try clear hx819_3
            try clear hx819_4
            try clear p2
            try clear p819
            try clear q819
            obtain ⟨x8_2, x827001_2, x827002_2, rfl, HA, HK2, HO_5, HI826, HB⟩ := hrel
            cases gk with
            | zero => exact absurd HA.out (by simp [colonnadelaw07_CursorBack.l1])
            | succ k2 =>
              have H := HA.out
              clear HA
              simp only [colonnadelaw07_CursorBack.l1] at H
              by_cases c14 : x8_2 < (l0.length : Int)
              · rw [if_pos c14] at H
                have c14b0 : decide (x8_2 < (l0.length : Int)) = true := decide_eq_true c14
                clear c14
                by_cases c15 : 0 ≤ x8_2
                · rw [if_pos c15] at H
                  have c15b0 : decide (0 ≤ x8_2) = true := decide_eq_true c15
                  clear c15
                  replace H := Option.bind_eq_some_iff.mp H
                  obtain ⟨⟨t828, t829, t830⟩, A160, H⟩ := H
                  replace H : (if t828 = true then ((cursor_Reader_Fault.f t823 t829 t830).bind fun bt831 => (if bt831.1 = 0 then (colonnadelaw07_CursorBack.l1 k2 l0 a1 x5_1 (wrap64 (x8_2 + 1)) t823 bt831.2.1 bt831.2.2) else (some false))) else (some false)) = some r := H
                  have A16 := Aside0.mk A160
                  clear A160
                  by_cases c17 : t828 = true
                  · subst c17
                    have H1 : ((cursor_Reader_Fault.f t823 t829 t830).bind fun bt831 => (if bt831.1 = 0 then (colonnadelaw07_CursorBack.l1 k2 l0 a1 x5_1 (wrap64 (x8_2 + 1)) t823 bt831.2.1 bt831.2.2) else (some false))) = some r := by rw [if_pos rfl] at H; exact H
                    clear H
                    have H := H1
                    clear H1
                    replace H := Option.bind_eq_some_iff.mp H
                    obtain ⟨⟨t831, t832, t833⟩, A180, H⟩ := H
                    replace H : (if t831 = 0 then (colonnadelaw07_CursorBack.l1 k2 l0 a1 x5_1 (wrap64 (x8_2 + 1)) t823 t832 t833) else (some false)) = some r := H
                    have A18 := Aside0.mk A180
                    clear A180
                    by_cases c19 : t831 = 0
                    · rw [if_pos c19] at H
                      have c19b0 : (t831 == 0) = true := beq_iff_eq.mpr c19
                      have c19b1 : (t831 != 0) = false := bne_eq_false_iff_eq.mpr c19
                      clear c19
                      have H' := Aside0.mk H
                      clear H
                      have p827 : 0 ≤ (x8_2 : Int) := of_decide_eq_true (by first | (with_reducible assumption) | assumption)
                      have q827 : x8_2 < (l0.length : Int) := of_decide_eq_true (by first | (with_reducible assumption) | assumption)
                      obtain ⟨ad827, A827_3, c827_3, A827_4, c827_4, e827, hx827_0, hx827_1, hx827_2, hx827_3, hx827_4, hl827_3, hi827_3, hl827_4, hi827_4⟩ := at_T76 HR0.out x8_2 p827 q827
                      cases e827
                      replace hx827_0 := (HB.out.cell (World.block_lt_of_cell? w _ hx827_0)).trans hx827_0
                      replace hx827_1 := (HB.out.cell (World.block_lt_of_cell? w _ hx827_1)).trans hx827_1
                      replace hx827_2 := (HB.out.cell (World.block_lt_of_cell? w _ hx827_2)).trans hx827_2
                      replace hx827_3 := (HB.out.cell (World.block_lt_of_cell? w _ hx827_3)).trans hx827_3
                      replace hx827_4 := (HB.out.cell (World.block_lt_of_cell? w _ hx827_4)).trans hx827_4
                      have HR827_3 := Aside0.mk hi827_3
                      have HC827_3 := Aside0.mk hl827_3
                      clear hi827_3 hl827_3
                      have HR827_4 := Aside0.mk hi827_4
                      have HC827_4 := Aside0.mk hl827_4
                      clear hi827_4 hl827_4
                      replace p827 := eq_true p827
                      replace q827 := eq_true q827
                      go_wp2_with (first | ((with_reducible refine gate_callee (f := 45) rfl ?_); refine goesL_ (some 38) rfl rfl Try.func45 (by kernel_rfl) rfl #[.pointer (some ⟨g826, 0, none⟩), .agg #[.int .i64 ((rd_T76 l0 x8_2).f0), .int .u64 ((rd_T76 l0 x8_2).f1), .int .i64 ((rd_T76 l0 x8_2).f2), .slice A827_3 ((rd_T76 l0 x8_2).f3).length c827_3, .slice A827_4 ((rd_T76 l0 x8_2).f4).length c827_4]] rfl (by (try simp only [List.map_toArray, List.map_cons, List.map_nil]); first | done | rfl | (simp only [List.length_drop, List.length_take]; rfl)) ?_; (with_reducible refine (colonnadelaw07_back.callsB k2 g826 t823 x827001_2 x827002_2 ((rd_T76 l0 x8_2).f0) ((rd_T76 l0 x8_2).f1) ((rd_T76 l0 x8_2).f2) _ _ ((rd_T76 l0 x8_2).f3) _ _ ((rd_T76 l0 x8_2).f4) true t829 t830 w _ ?side1 ?side2 ?side3 ?side4 ?side5 ?side6 ?side7 ?side8 A16.out).mono ?_); (case side1 => repeat (first | (with_reducible first | exact HI826.out | apply IsB46.alloc | apply IsB46.drewN | apply IsB46.drew | apply IsB46.set_1 | apply IsB46.set_2) | exact HI826.out)); (case side2 => repeat (first | (with_reducible first | exact HB.out | apply below_alloc | apply pw_below_drewN | apply below_drew1 | refine below_set ?_ (IsB46.ge HI826.out)) | exact HB.out)); (case side3 => repeat (first | exact (Kd.C_below HR827_3.out HB.out) | (with_reducible refine Kd.C_alloc ?_ _) | (with_reducible refine Kd.C_drewN ?_ _) | (with_reducible refine Kd.C_drew ?_))); (case side4 => exact HC827_3.out); (case side5 => exact Kd.far_C 0 HR827_3.out (IsB46.ge HI826.out)); (case side6 => repeat (first | exact (Kd.C_below HR827_4.out HB.out) | (with_reducible refine Kd.C_alloc ?_ _) | (with_reducible refine Kd.C_drewN ?_ _) | (with_reducible refine Kd.C_drew ?_))); (case side7 => exact HC827_4.out); (case side8 => exact Kd.far_C (⟨#[]⟩ : ByteArray) HR827_4.out (IsB46.ge HI826.out)); rintro e w20 ⟨rfl, hi, hb, hk⟩; refine ⟨_, rfl, ?_⟩; have n0_ := Aside0.mk (Kd.R_mono (Kd.R_keep (IsB46.apart (show IsB46 w _ g826 t823 x827001_2 x827002_2 from by repeat (first | (with_reducible first | exact HI826.out | apply IsB46.alloc | apply IsB46.drewN | apply IsB46.drew | apply IsB46.set_1 | apply IsB46.set_2) | exact HI826.out)) (by (with_reducible repeat (first | apply Kd.R_alloc | apply Kd.R_drewN | apply Kd.R_drew)); exact HO_5.out) (by decide)) hk (fun _ h => h.2)) (fun _ h => h.1)); have n1_ := Aside0.mk (hb); have n2_ := Aside0.mk (hi); clear HO_5; clear HB; clear HI826; have HO_5 := n0_; have HB := n1_; have HI826 := n2_; clear n0_ n1_ n2_; (try clear hb); (try clear hb2); (try clear hk); (try clear hi)) | (go_at_call 43; (with_reducible refine (cursor_Reader_Fault.callsB g826 t823 t829 t830 t831 t832 t833 w _ ?side1 ?side2 A18.out).mono ?_); (case side1 => repeat (first | (with_reducible first | exact HI826.out | apply IsB46.alloc | apply IsB46.drewN | apply IsB46.drew | apply IsB46.set_1 | apply IsB46.set_2) | exact HI826.out)); (case side2 => repeat (first | (with_reducible first | exact HB.out | apply below_alloc | apply pw_below_drewN | apply below_drew1 | refine below_set ?_ (IsB46.ge HI826.out)) | exact HB.out)); rintro e w21 ⟨rfl, hi, hb, hk⟩; (try clear A18); have n0_ := Aside0.mk (Kd.R_mono (Kd.R_keep (IsB46.apart (show IsB46 w _ g826 t823 t829 t830 from by repeat (first | (with_reducible first | exact HI826.out | apply IsB46.alloc | apply IsB46.drewN | apply IsB46.drew | apply IsB46.set_1 | apply IsB46.set_2) | exact HI826.out)) (by (with_reducible repeat (first | apply Kd.R_alloc | apply Kd.R_drewN | apply Kd.R_drew)); exact HO_5.out) (by decide)) hk (fun _ h => h.2)) (fun _ h => h.1)); have n1_ := Aside0.mk (hb); have n2_ := Aside0.mk (hi); clear HO_5; clear HB; clear HI826; have HO_5 := n0_; have HB := n1_; have HI826 := n2_; clear n0_ n1_ n2_; (try clear hb); (try clear hb2); (try clear hk); (try clear hi)))
                      go_roundg k2
                      case measure => have := HK1.out; have := HK2.out; omega
                      case rel => exact ⟨(wrap64 (x8_2 + 1)), (t832), (t833), (by first | rfl | (simp; done) | (simp [*]; done)), H', ⟨by have := HK1.out; have := HK2.out; omega⟩, ⟨by (with_reducible repeat (first | apply Kd.R_alloc | apply Kd.R_drewN | apply Kd.R_drew)); exact HO_5.out⟩, ⟨by repeat (first | (with_reducible first | exact HI826.out | apply IsB46.alloc | apply IsB46.drewN | apply IsB46.drew | apply IsB46.set_1 | apply IsB46.set_2) | exact HI826.out)⟩, ⟨by repeat (first | (with_reducible first | exact HB.out | apply below_alloc | apply pw_below_drewN | apply below_drew1 | refine below_set ?_ (IsB46.ge HI826.out)) | exact HB.out)⟩⟩
                    · rw [if_neg c19] at H
                      exact absurd ((Option.some.inj H).trans htrue.out) (by decide)
                  · replace c17 := Bool.eq_false_iff.mpr c17
                    subst c17
                    have H1 : (some false) = some r := by rw [if_neg (show ¬ (false = true) by decide)] at H; exact H
                    exact absurd ((Option.some.inj H1).trans htrue.out) (by decide)
                · rw [if_neg c15] at H
                  exact absurd H (by simp)
              · rw [if_neg c14] at H
                have c14b0 : decide (x8_2 < (l0.length : Int)) = false := decide_eq_false c14
                clear c14
                have HC25 := Aside0.mk H
                clear H
                go_upto_region 14 with (fail)
                go_cut [52] (fun v52 wc => ∃ (kq : Nat) (x52_24 : Bool), v52 = .bool x52_24 ∧ Aside0 (colonnadelaw07_CursorBack.j2 kq l0 a1 x5_1 x52_24 = some r) ∧ Aside0 (kq ≤ k2) ∧ Aside0 (Kd.R (Kd.int .u8) 5 wc w.heap.size (fun _ => True) (.slice Ao12 x5_1.length co12) x5_1) ∧ Aside0 (Below w.heap.size w wc))
                case first =>
                  have H := HC25.out
                  clear HC25
                  replace H := Option.bind_eq_some_iff.mp H
                  obtain ⟨⟨t834, t835, t836⟩, A260, H⟩ := H
                  replace H : (if t834 = 0 then ((cursor_Reader_End.f t823 t835 t836).bind fun bt837 => (colonnadelaw07_CursorBack.j2 k2 l0 a1 x5_1 (bt837.1 != 0))) else (colonnadelaw07_CursorBack.j2 k2 l0 a1 x5_1 true)) = some r := H
                  have A26 := Aside0.mk A260
                  clear A260
                  by_cases c27 : t834 = 0
                  · rw [if_pos c27] at H
                    have c27b0 : (t834 == 0) = true := beq_iff_eq.mpr c27
                    have c27b1 : (t834 != 0) = false := bne_eq_false_iff_eq.mpr c27
                    clear c27
                    (first | rw [c27b0] | (simp only [i64_w, i32_w]; rw [c27b0]) | skip)
                    replace H := Option.bind_eq_some_iff.mp H
                    obtain ⟨⟨t837, t838, t839⟩, A280, H⟩ := H
                    replace H : (colonnadelaw07_CursorBack.j2 k2 l0 a1 x5_1 (t837 != 0)) = some r := H
                    have A28 := Aside0.mk A280
                    clear A280
                    have H' := Aside0.mk H
                    clear H
                    go_wp2_with (first | ((with_reducible refine gate_callee (f := 42) rfl ?_); refine goesL_ (some 46) rfl rfl Try.func42 (by kernel_rfl) rfl #[.pointer (some ⟨g826, 0, none⟩)] rfl (by (try simp only [List.map_toArray, List.map_cons, List.map_nil]); first | done | rfl | (simp only [List.length_drop, List.length_take]; rfl)) ?_; (with_reducible refine (cursor_Reader_Left.callsB g826 t823 x827001_2 x827002_2 t834 t835 t836 w _ ?side1 ?side2 A26.out).mono ?_); (case side1 => repeat (first | (with_reducible first | exact HI826.out | apply IsB46.alloc | apply IsB46.drewN | apply IsB46.drew | apply IsB46.set_1 | apply IsB46.set_2) | exact HI826.out)); (case side2 => repeat (first | (with_reducible first | exact HB.out | apply below_alloc | apply pw_below_drewN | apply below_drew1 | refine below_set ?_ (IsB46.ge HI826.out)) | exact HB.out)); rintro e w29 ⟨rfl, hi, hb, hk⟩; refine ⟨_, rfl, ?_⟩; have n0_ := Aside0.mk (Kd.R_mono (Kd.R_keep (IsB46.apart (show IsB46 w _ g826 t823 x827001_2 x827002_2 from by repeat (first | (with_reducible first | exact HI826.out | apply IsB46.alloc | apply IsB46.drewN | apply IsB46.drew | apply IsB46.set_1 | apply IsB46.set_2) | exact HI826.out)) (by (with_reducible repeat (first | apply Kd.R_alloc | apply Kd.R_drewN | apply Kd.R_drew)); exact HO_5.out) (by decide)) hk (fun _ h => h.2)) (fun _ h => h.1)); have n1_ := Aside0.mk (hb); have n2_ := Aside0.mk (hi); clear HO_5; clear HB; clear HI826; have HO_5 := n0_; have HB := n1_; have HI826 := n2_; clear n0_ n1_ n2_; (try clear hb); (try clear hb2); (try clear hk); (try clear hi)) | (go_at_call 37; (with_reducible refine (cursor_Reader_End.callsB g826 t823 t835 t836 t837 t838 t839 w _ ?side1 ?side2 A28.out).mono ?_); (case side1 => repeat (first | (with_reducible first | exact HI826.out | apply IsB46.alloc | apply IsB46.drewN | apply IsB46.drew | apply IsB46.set_1 | apply IsB46.set_2) | exact HI826.out)); (case side2 => repeat (first | (with_reducible first | exact HB.out | apply below_alloc | apply pw_below_drewN | apply below_drew1 | refine below_set ?_ (IsB46.ge HI826.out)) | exact HB.out)); rintro e w30 ⟨rfl, hi, hb, hk⟩; (try clear A28); have n0_ := Aside0.mk (Kd.R_mono (Kd.R_keep (IsB46.apart (show IsB46 w _ g826 t823 t835 t836 from by repeat (first | (with_reducible first | exact HI826.out | apply IsB46.alloc | apply IsB46.drewN | apply IsB46.drew | apply IsB46.set_1 | apply IsB46.set_2) | exact HI826.out)) (by (with_reducible repeat (first | apply Kd.R_alloc | apply Kd.R_drewN | apply Kd.R_drew)); exact HO_5.out) (by decide)) hk (fun _ h => h.2)) (fun _ h => h.1)); have n1_ := Aside0.mk (hb); have n2_ := Aside0.mk (hi); clear HO_5; clear HB; clear HI826; have HO_5 := n0_; have HB := n1_; have HI826 := n2_; clear n0_ n1_ n2_; (try clear hb); (try clear hb2); (try clear hk); (try clear hi)))
                    go_meet
                    case rel => exact ⟨_, ((t837 != 0)), (by first | rfl | (simp; done) | (simp [*]; done)), H', ⟨by have := HK1.out; have := HK2.out; first | omega | exact Nat.le_refl _⟩, ⟨by (with_reducible repeat (first | apply Kd.R_alloc | apply Kd.R_drewN | apply Kd.R_drew)); exact HO_5.out⟩, ⟨by repeat (first | (with_reducible first | exact HB.out | apply below_alloc | apply pw_below_drewN | apply below_drew1 | refine below_set ?_ (IsB46.ge HI826.out)) | exact HB.out)⟩⟩
                  · rw [if_neg c27] at H
                    exact absurd ((colonnadelaw07_CursorBack.j2_dead H).trans htrue.out) (by decide)
                case rest =>
                  clear HC25
                  try clear c1
                  try clear c2
                  try clear p2
                  try clear c4
                  try clear c6
                  try clear c6b0
                  try clear p6
                  try clear c7
                  try clear c7b0
                  try clear c8
                  try clear p8
                  try clear q8
                  try clear hx8
                  try clear c9
                  try clear c14
                  try clear c14b0
                  try clear c15
                  try clear c15b0
                  try clear c17
                  try clear c19
                  try clear c19b0
                  try clear c19b1
                  try clear c20
                  try clear c27
                  try clear c27b0
                  try clear c27b1
                  try clear hx819_0
                  try clear hx819_1
                  try clear hx819_2
                  try clear hx819_3
                  try clear hx819_4
                  try clear hx827_0
                  try clear hx827_1
                  try clear hx827_2
                  try clear hx827_3
                  try clear hx827_4
                  try clear p2
                  try clear p6
                  try clear p8
                  try clear p819
                  try clear p827
                  try clear q8
                  try clear q819
                  try clear q827
                  obtain ⟨kq, x52_24, rfl, HA, HJ24, HO_5, HB⟩ := hcut
                  cases kq with
                  | zero => exact absurd HA.out (by simp [colonnadelaw07_CursorBack.j2])
                  | succ kj24 =>
                    have H := HA.out
                    clear HA
                    simp only [colonnadelaw07_CursorBack.j2] at H
                    by_cases c32 : x52_24 = true
                    · subst c32
                      have H1 : (some false) = some r := by rw [if_pos rfl] at H; exact H
                      exact absurd ((Option.some.inj H1).trans htrue.out) (by decide)
                    · replace c32 := Bool.eq_false_iff.mpr c32
                      subst c32
                      have H1 : (if (x5_1.length : Int) = 0 then (some ((l0.length : Int) == 0)) else ((colonnadelaw07_pick.f a1 (x5_1.length : Int)).bind fun t840 => (if 0 ≤ t840 then (if t840 ≤ (x5_1.length : Int) then ((cursor_Open.f (x5_1.take (t840 : Int).toNat)).bind fun bt845 => (colonnadelaw07_CursorBack.l2 kj24 l0 0 bt845.1 bt845.2.1 bt845.2.2)) else (none)) else (none)))) = some r := by rw [if_neg (show ¬ (false = true) by decide)] at H; exact H
                      clear H
                      have H := H1
                      clear H1
                      by_cases c33 : (x5_1.length : Int) = 0
                      · rw [if_pos c33] at H
                        have c33b0 : ((x5_1.length : Int) == 0) = true := beq_iff_eq.mpr c33
                        have c33b1 : ((x5_1.length : Int) != 0) = false := bne_eq_false_iff_eq.mpr c33
                        clear c33
                        obtain rfl := Option.some.inj H
                        go_wp2
                        go_ret
                        exact ⟨by first | rfl | (simp [errW_none, errW_some] <;> rfl) | (simp [*, errW_none, errW_some] <;> rfl), by repeat (first | (with_reducible first | exact HB.out | apply below_alloc | apply pw_below_drewN | apply below_drew1) | exact HB.out)⟩
                      · rw [if_neg c33] at H
                        have c33b0 : ((x5_1.length : Int) == 0) = false := beq_eq_false_iff_ne.mpr c33
                        have c33b1 : ((x5_1.length : Int) != 0) = true := bne_iff_ne.mpr c33
                        have c33b2 : ¬ (x5_1 = []) := fun h_ => c33 (by rw [h_]; rfl)
                        replace H := Option.bind_eq_some_iff.mp H
                        obtain ⟨t840, A340, H⟩ := H
                        replace H : (if 0 ≤ t840 then (if t840 ≤ (x5_1.length : Int) then ((cursor_Open.f (x5_1.take (t840 : Int).toNat)).bind fun bt845 => (colonnadelaw07_CursorBack.l2 kj24 l0 0 bt845.1 bt845.2.1 bt845.2.2)) else (none)) else (none)) = some r := H
                        have A34 := Aside0.mk A340
                        clear A340
                        by_cases c35 : 0 ≤ t840
                        · rw [if_pos c35] at H
                          have c35b0 := eq_true c35
                          have c35b1 : decide (0 ≤ t840) = true := decide_eq_true c35
                          clear c35
                          by_cases c36 : t840 ≤ (x5_1.length : Int)
                          · rw [if_pos c36] at H
                            have c36b0 := eq_true c36
                            have c36b1 : decide (t840 ≤ (x5_1.length : Int)) = true := decide_eq_true c36
                            clear c36
                            obtain ⟨y841, hy841⟩ : ∃ y_ : List Int, y_ = (x5_1.take (t840 : Int).toNat) := ⟨_, rfl⟩
                            replace H : ((cursor_Open.f y841).bind fun bt845 => (colonnadelaw07_CursorBack.l2 kj24 l0 0 bt845.1 bt845.2.1 bt845.2.2)) = some r := by first | (rw [hy841]; with_reducible exact H) | (have H2_ := (Option.bind_some _ _).symm.trans H; rw [hy841]; with_reducible exact H2_) | (have H2_ := (Option.bind_some _ _).symm.trans H; with_reducible exact H2_) | with_reducible exact H | (rw [hy841]; exact H) | exact H
                            have Ny841 := Aside0.mk hy841
                            clear hy841
                            replace H := Option.bind_eq_some_iff.mp H
                            obtain ⟨⟨t845, t846, t847⟩, A370, H⟩ := H
                            replace H : (colonnadelaw07_CursorBack.l2 kj24 l0 0 t845 t846 t847) = some r := H
                            have A37 := Aside0.mk A370
                            clear A370
                            have H' := Aside0.mk H
                            clear H
                            go_wp2_with (first | ((with_reducible refine gate_callee (f := 21) rfl ?_); refine goesL_ (some 63) rfl rfl Try.func21 (by kernel_rfl) rfl #[.int .i64 a1, .int .i64 (x5_1.length : Int)] rfl (by (try simp only [List.map_toArray, List.map_cons, List.map_nil]); first | done | rfl | (simp only [List.length_drop, List.length_take]; rfl)) ?_; (with_reducible refine (colonnadelaw07_pick.calls a1 (x5_1.length : Int) t840 _ A34.out).mono ?_); rintro e w' ⟨rfl, ⟨nd, rfl⟩⟩; refine ⟨_, rfl, ?_⟩; have q38 : (t840 : Int) ≤ ((x5_1.length : Int) : Int) := of_decide_eq_true (by first | (with_reducible assumption) | assumption); obtain ⟨i038, hi038, _, hsz38, _⟩ := info_parts info5; have hroom38 : x5_1.length ≤ co12 := (Kd.R_reads' HO_5.out).2.1; have hC38 : Kd.C (Kd.int .u8) _ Ao12 x5_1.length x5_1 := (Kd.R_reads' HO_5.out).2.2; have hcut38 := cut_to (P := Try.prog) 24 5 .i64 Try.underlying24 hi038 Ao12 x5_1.length co12 t840 (of_decide_eq_true (by first | (with_reducible assumption) | assumption)) q38 hroom38; have hr38 := Kd.C_take (m := (t840 : Int).toNat) hC38 (by omega); have hy38 : y841.length = (t840 : Int).toNat := (by rw [Ny841.out, List.length_take]; omega); rw [← Ny841.out] at hr38; rw [← hy38] at hcut38; have HR844 := Aside0.mk hr38; have HC844 := Aside0.mk (show y841.length ≤ co12 from by omega); clear hr38 hC38 hroom38 hi038 hsz38; have KY38 := Aside0.mk hy38; clear hy38; have KL38 := Aside0.mk (show (t840 : Int).toNat ≤ x5_1.length from by omega); replace q38 := eq_true q38) | ((with_reducible refine gate_callee (f := 20) rfl ?_); refine goesL_ (some 65) rfl rfl Try.func20 (by kernel_rfl) rfl #[.slice Ao12 y841.length co12] rfl (by (try simp only [List.map_toArray, List.map_cons, List.map_nil]); first | done | rfl | (simp only [List.length_drop, List.length_take]; rfl)) ?_; (with_reducible refine (cursor_Open.callsB _ _ y841 t845 t846 t847 w _ ?side1 ?side2 ?side3 A37.out).mono ?_); (case side1 => repeat (first | (with_reducible first | exact HB.out | apply below_alloc | apply pw_below_drewN | apply below_drew1) | exact HB.out)); (case side2 => repeat (first | exact (by repeat (first | (with_reducible exact HR844.out) | (with_reducible refine Kd.C_alloc ?_ _) | (with_reducible refine Kd.C_drewN ?_ _) | (with_reducible refine Kd.C_drew ?_) | exact HR844.out)) | (with_reducible refine Kd.C_alloc ?_ _) | (with_reducible refine Kd.C_drewN ?_ _) | (with_reducible refine Kd.C_drew ?_))); (case side3 => exact HC844.out); rintro e w39 ⟨g848, rfl, hi, hb, hb2⟩; refine ⟨_, rfl, ?_⟩; have n0_ := Aside0.mk (Kd.R_below (by (with_reducible repeat (first | apply Kd.R_alloc | apply Kd.R_drewN | apply Kd.R_drew)); exact HO_5.out) hb2); have n1_ := Aside0.mk (Kd.C_below (by repeat (first | (with_reducible exact HR844.out) | (with_reducible refine Kd.C_alloc ?_ _) | (with_reducible refine Kd.C_drewN ?_ _) | (with_reducible refine Kd.C_drew ?_) | exact HR844.out)) hb2); have n2_ := Aside0.mk (hb); have n3_ := Aside0.mk (hi); clear HO_5; clear HR844; clear HB; have HO_5 := n0_; have HR844 := n1_; have HB := n2_; have HI848 := n3_; clear n0_ n1_ n2_ n3_; (try clear hb); (try clear hb2); (try clear hk); (try clear hi)))
                            go_loopg [9] kj24 (fun kq v9 w' => ∃ (x9_4 : Int) (x849001_4 : Int) (x849002_4 : Int), v9 = .int .i64 x9_4 ∧ Aside0 (colonnadelaw07_CursorBack.l2 kq l0 x9_4 t845 x849001_4 x849002_4 = some r) ∧ Aside0 (kq ≤ kj24) ∧ Aside0 (IsB46 w w' g848 t845 x849001_4 x849002_4) ∧ Aside0 (Below w.heap.size w w'))
                            case atStart => exact ⟨(0), (t846), (t847), (by first | rfl | (simp; done) | (simp [*]; done)), H', ⟨Nat.le_refl _⟩, ⟨by repeat (first | (with_reducible first | exact HI848.out | apply IsB46.alloc | apply IsB46.drewN | apply IsB46.drew | apply IsB46.set_1 | apply IsB46.set_2) | exact HI848.out)⟩, ⟨by repeat (first | (with_reducible first | exact HB.out | apply below_alloc | apply pw_below_drewN | apply below_drew1 | refine below_set ?_ (IsB46.ge HI848.out)) | exact HB.out)⟩⟩
                            case round =>
                              clear H'
                              try clear c1
                              try clear c2
                              try clear p2
                              try clear c3
                              try clear q3
                              try clear c4
                              try clear c6
                              try clear c6b0
                              try clear p6
                              try clear c7
                              try clear c7b0
                              try clear c8
                              try clear p8
                              try clear q8
                              try clear hx8
                              try clear c9
                              try clear c14
                              try clear c14b0
                              try clear c15
                              try clear c15b0
                              try clear c17
                              try clear c19
                              try clear c19b0
                              try clear c19b1
                              try clear c20
                              try clear c21
                              try clear c27
                              try clear c27b0
                              try clear c27b1
                              try clear c32
                              try clear c33
                              try clear c33b0
                              try clear c33b1
                              try clear c33b2
                              try clear c35
                              try clear c35b0
                              try clear c35b1
                              try clear c36
                              try clear c36b0
                              try clear c36b1
                              try clear q38
                              try clear hx819_0
                              try clear hx819_1
                              try clear hx819_2
                              try clear hx819_3
                              try clear hx819_4
                              try clear hx827_0
                              try clear hx827_1
                              try clear hx827_2
                              try clear hx827_3
                              try clear hx827_4
                              try clear p2
                              try clear p6
                              try clear p8
                              try clear p819
                              try clear p827
                              try clear q38
                              try clear q8
                              try clear q819
                              try clear q827
                              obtain ⟨x9_4, x849001_4, x849002_4, rfl, HA, HK4, HI848, HB⟩ := hrel
                              cases gk with
                              | zero => exact absurd HA.out (by simp [colonnadelaw07_CursorBack.l2])
                              | succ k4 =>
                                have H := HA.out
                                clear HA
                                simp only [colonnadelaw07_CursorBack.l2] at H
                                by_cases c40 : x9_4 < (l0.length : Int)
                                · rw [if_pos c40] at H
                                  have c40b0 : decide (x9_4 < (l0.length : Int)) = true := decide_eq_true c40
                                  clear c40
                                  by_cases c41 : 0 ≤ x9_4
                                  · rw [if_pos c41] at H
                                    have c41b0 : decide (0 ≤ x9_4) = true := decide_eq_true c41
                                    clear c41
                                    replace H := Option.bind_eq_some_iff.mp H
                                    obtain ⟨⟨t850, t851, t852⟩, A420, H⟩ := H
                                    replace H : ((cursor_Reader_Fault.f t845 t851 t852).bind fun bt853 => (if bt853.1 = 71 then ((cursor_Reader_End.f t845 bt853.2.1 bt853.2.2).bind fun bt856 => (some (bt856.1 == 71))) else (if t850 = true then ((cursor_Reader_Fault.f t845 bt853.2.1 bt853.2.2).bind fun bt859 => (if bt859.1 = 0 then (colonnadelaw07_CursorBack.l2 k4 l0 (wrap64 (x9_4 + 1)) t845 bt859.2.1 bt859.2.2) else (some false))) else (some false)))) = some r := H
                                    have A42 := Aside0.mk A420
                                    clear A420
                                    replace H := Option.bind_eq_some_iff.mp H
                                    obtain ⟨⟨t853, t854, t855⟩, A430, H⟩ := H
                                    replace H : (if t853 = 71 then ((cursor_Reader_End.f t845 t854 t855).bind fun bt856 => (some (bt856.1 == 71))) else (if t850 = true then ((cursor_Reader_Fault.f t845 t854 t855).bind fun bt859 => (if bt859.1 = 0 then (colonnadelaw07_CursorBack.l2 k4 l0 (wrap64 (x9_4 + 1)) t845 bt859.2.1 bt859.2.2) else (some false))) else (some false))) = some r := H
                                    have A43 := Aside0.mk A430
                                    clear A430
                                    by_cases c44 : t853 = 71
                                    · rw [if_pos c44] at H
                                      have c44b0 : (t853 == 71) = true := beq_iff_eq.mpr c44
                                      have c44b1 : (t853 != 71) = false := bne_eq_false_iff_eq.mpr c44
                                      clear c44
                                      replace H := Option.bind_eq_some_iff.mp H
                                      obtain ⟨⟨t856, t857, t858⟩, A450, H⟩ := H
                                      replace H : (some (t856 == 71)) = some r := H
                                      have A45 := Aside0.mk A450
                                      clear A450
                                      obtain rfl := Option.some.inj H
                                      have p849 : 0 ≤ (x9_4 : Int) := of_decide_eq_true (by first | (with_reducible assumption) | assumption)
                                      have q849 : x9_4 < (l0.length : Int) := of_decide_eq_true (by first | (with_reducible assumption) | assumption)
                                      obtain ⟨ad849, A849_3, c849_3, A849_4, c849_4, e849, hx849_0, hx849_1, hx849_2, hx849_3, hx849_4, hl849_3, hi849_3, hl849_4, hi849_4⟩ := at_T76 HR0.out x9_4 p849 q849
                                      cases e849
                                      replace hx849_0 := (HB.out.cell (World.block_lt_of_cell? w _ hx849_0)).trans hx849_0
                                      replace hx849_1 := (HB.out.cell (World.block_lt_of_cell? w _ hx849_1)).trans hx849_1
                                      replace hx849_2 := (HB.out.cell (World.block_lt_of_cell? w _ hx849_2)).trans hx849_2
                                      replace hx849_3 := (HB.out.cell (World.block_lt_of_cell? w _ hx849_3)).trans hx849_3
                                      replace hx849_4 := (HB.out.cell (World.block_lt_of_cell? w _ hx849_4)).trans hx849_4
                                      have HR849_3 := Aside0.mk hi849_3
                                      have HC849_3 := Aside0.mk hl849_3
                                      clear hi849_3 hl849_3
                                      have HR849_4 := Aside0.mk hi849_4
                                      have HC849_4 := Aside0.mk hl849_4
                                      clear hi849_4 hl849_4
                                      replace p849 := eq_true p849
                                      replace q849 := eq_true q849
                                      go_wp2_with (first | ((with_reducible refine gate_callee (f := 45) rfl ?_); refine goesL_ (some 77) rfl rfl Try.func45 (by kernel_rfl) rfl #[.pointer (some ⟨g848, 0, none⟩), .agg #[.int .i64 ((rd_T76 l0 x9_4).f0), .int .u64 ((rd_T76 l0 x9_4).f1), .int .i64 ((rd_T76 l0 x9_4).f2), .slice A849_3 ((rd_T76 l0 x9_4).f3).length c849_3, .slice A849_4 ((rd_T76 l0 x9_4).f4).length c849_4]] rfl (by (try simp only [List.map_toArray, List.map_cons, List.map_nil]); first | done | rfl | (simp only [List.length_drop, List.length_take]; rfl)) ?_; (with_reducible refine (colonnadelaw07_back.callsB k4 g848 t845 x849001_4 x849002_4 ((rd_T76 l0 x9_4).f0) ((rd_T76 l0 x9_4).f1) ((rd_T76 l0 x9_4).f2) _ _ ((rd_T76 l0 x9_4).f3) _ _ ((rd_T76 l0 x9_4).f4) t850 t851 t852 w _ ?side1 ?side2 ?side3 ?side4 ?side5 ?side6 ?side7 ?side8 A42.out).mono ?_); (case side1 => repeat (first | (with_reducible first | exact HI848.out | apply IsB46.alloc | apply IsB46.drewN | apply IsB46.drew | apply IsB46.set_1 | apply IsB46.set_2) | exact HI848.out)); (case side2 => repeat (first | (with_reducible first | exact HB.out | apply below_alloc | apply pw_below_drewN | apply below_drew1 | refine below_set ?_ (IsB46.ge HI848.out)) | exact HB.out)); (case side3 => repeat (first | exact (Kd.C_below HR849_3.out HB.out) | (with_reducible refine Kd.C_alloc ?_ _) | (with_reducible refine Kd.C_drewN ?_ _) | (with_reducible refine Kd.C_drew ?_))); (case side4 => exact HC849_3.out); (case side5 => exact Kd.far_C 0 HR849_3.out (IsB46.ge HI848.out)); (case side6 => repeat (first | exact (Kd.C_below HR849_4.out HB.out) | (with_reducible refine Kd.C_alloc ?_ _) | (with_reducible refine Kd.C_drewN ?_ _) | (with_reducible refine Kd.C_drew ?_))); (case side7 => exact HC849_4.out); (case side8 => exact Kd.far_C (⟨#[]⟩ : ByteArray) HR849_4.out (IsB46.ge HI848.out)); rintro e w46 ⟨rfl, hi, hb, hk⟩; refine ⟨_, rfl, ?_⟩; have n0_ := Aside0.mk (hb); have n1_ := Aside0.mk (hi); clear HB; clear HI848; have HB := n0_; have HI848 := n1_; clear n0_ n1_; (try clear hb); (try clear hb2); (try clear hk); (try clear hi)) | ((with_reducible refine gate_callee (f := 43) rfl ?_); refine goesL_ (some 79) rfl rfl Try.func43 (by kernel_rfl) rfl #[.pointer (some ⟨g848, 0, none⟩)] rfl (by (try simp only [List.map_toArray, List.map_cons, List.map_nil]); first | done | rfl | (simp only [List.length_drop, List.length_take]; rfl)) ?_; (with_reducible refine (cursor_Reader_Fault.callsB g848 t845 t851 t852 t853 t854 t855 w _ ?side1 ?side2 A43.out).mono ?_); (case side1 => repeat (first | (with_reducible first | exact HI848.out | apply IsB46.alloc | apply IsB46.drewN | apply IsB46.drew | apply IsB46.set_1 | apply IsB46.set_2) | exact HI848.out)); (case side2 => repeat (first | (with_reducible first | exact HB.out | apply below_alloc | apply pw_below_drewN | apply below_drew1 | refine below_set ?_ (IsB46.ge HI848.out)) | exact HB.out)); rintro e w47 ⟨rfl, hi, hb, hk⟩; refine ⟨_, rfl, ?_⟩; have n0_ := Aside0.mk (hb); have n1_ := Aside0.mk (hi); clear HB; clear HI848; have HB := n0_; have HI848 := n1_; clear n0_ n1_; (try clear hb); (try clear hb2); (try clear hk); (try clear hi)) | ((with_reducible refine gate_callee (f := 37) rfl ?_); refine goesL_ (some 82) rfl rfl Try.func37 (by kernel_rfl) rfl #[.pointer (some ⟨g848, 0, none⟩)] rfl (by (try simp only [List.map_toArray, List.map_cons, List.map_nil]); first | done | rfl | (simp only [List.length_drop, List.length_take]; rfl)) ?_; (with_reducible refine (cursor_Reader_End.callsB g848 t845 t854 t855 t856 t857 t858 w _ ?side1 ?side2 A45.out).mono ?_); (case side1 => repeat (first | (with_reducible first | exact HI848.out | apply IsB46.alloc | apply IsB46.drewN | apply IsB46.drew | apply IsB46.set_1 | apply IsB46.set_2) | exact HI848.out)); (case side2 => repeat (first | (with_reducible first | exact HB.out | apply below_alloc | apply pw_below_drewN | apply below_drew1 | refine below_set ?_ (IsB46.ge HI848.out)) | exact HB.out)); rintro e w48 ⟨rfl, hi, hb, hk⟩; refine ⟨_, rfl, ?_⟩; have n0_ := Aside0.mk (hb); have n1_ := Aside0.mk (hi); clear HB; clear HI848; have HB := n0_; have HI848 := n1_; clear n0_ n1_; (try clear hb); (try clear hb2); (try clear hk); (try clear hi)))
                                      go_ret
                                      exact ⟨by first | rfl | (simp [errW_none, errW_some] <;> rfl) | (simp [*, errW_none, errW_some] <;> rfl), by repeat (first | (with_reducible first | exact HB.out | apply below_alloc | apply pw_below_drewN | apply below_drew1 | refine below_set ?_ (IsB46.ge HI848.out)) | exact HB.out)⟩
                                    · rw [if_neg c44] at H
                                      have c44b0 : (t853 == 71) = false := beq_eq_false_iff_ne.mpr c44
                                      have c44b1 : (t853 != 71) = true := bne_iff_ne.mpr c44
                                      by_cases c49 : t850 = true
                                      · subst c49
                                        have H1 : ((cursor_Reader_Fault.f t845 t854 t855).bind fun bt859 => (if bt859.1 = 0 then (colonnadelaw07_CursorBack.l2 k4 l0 (wrap64 (x9_4 + 1)) t845 bt859.2.1 bt859.2.2) else (some false))) = some r := by rw [if_pos rfl] at H; exact H
                                        clear H
                                        have H := H1
                                        clear H1
                                        replace H := Option.bind_eq_some_iff.mp H
                                        obtain ⟨⟨t859, t860, t861⟩, A500, H⟩ := H
                                        replace H : (if t859 = 0 then (colonnadelaw07_CursorBack.l2 k4 l0 (wrap64 (x9_4 + 1)) t845 t860 t861) else (some false)) = some r := H
                                        have A50 := Aside0.mk A500
                                        clear A500
                                        by_cases c51 : t859 = 0
                                        · rw [if_pos c51] at H
                                          have c51b0 : (t859 == 0) = true := beq_iff_eq.mpr c51
                                          have c51b1 : (t859 != 0) = false := bne_eq_false_iff_eq.mpr c51
                                          clear c51
                                          have H' := Aside0.mk H
                                          clear H
                                          have p849 : 0 ≤ (x9_4 : Int) := of_decide_eq_true (by first | (with_reducible assumption) | assumption)
                                          have q849 : x9_4 < (l0.length : Int) := of_decide_eq_true (by first | (with_reducible assumption) | assumption)
                                          obtain ⟨ad849, A849_3, c849_3, A849_4, c849_4, e849, hx849_0, hx849_1, hx849_2, hx849_3, hx849_4, hl849_3, hi849_3, hl849_4, hi849_4⟩ := at_T76 HR0.out x9_4 p849 q849
                                          cases e849
                                          replace hx849_0 := (HB.out.cell (World.block_lt_of_cell? w _ hx849_0)).trans hx849_0
                                          replace hx849_1 := (HB.out.cell (World.block_lt_of_cell? w _ hx849_1)).trans hx849_1
                                          replace hx849_2 := (HB.out.cell (World.block_lt_of_cell? w _ hx849_2)).trans hx849_2
                                          replace hx849_3 := (HB.out.cell (World.block_lt_of_cell? w _ hx849_3)).trans hx849_3
                                          replace hx849_4 := (HB.out.cell (World.block_lt_of_cell? w _ hx849_4)).trans hx849_4
                                          have HR849_3 := Aside0.mk hi849_3
                                          have HC849_3 := Aside0.mk hl849_3
                                          clear hi849_3 hl849_3
                                          have HR849_4 := Aside0.mk hi849_4
                                          have HC849_4 := Aside0.mk hl849_4
                                          clear hi849_4 hl849_4
                                          replace p849 := eq_true p849
                                          replace q849 := eq_true q849
                                          go_wp2_with (first | ((with_reducible refine gate_callee (f := 45) rfl ?_); refine goesL_ (some 77) rfl rfl Try.func45 (by kernel_rfl) rfl #[.pointer (some ⟨g848, 0, none⟩), .agg #[.int .i64 ((rd_T76 l0 x9_4).f0), .int .u64 ((rd_T76 l0 x9_4).f1), .int .i64 ((rd_T76 l0 x9_4).f2), .slice A849_3 ((rd_T76 l0 x9_4).f3).length c849_3, .slice A849_4 ((rd_T76 l0 x9_4).f4).length c849_4]] rfl (by (try simp only [List.map_toArray, List.map_cons, List.map_nil]); first | done | rfl | (simp only [List.length_drop, List.length_take]; rfl)) ?_; (with_reducible refine (colonnadelaw07_back.callsB k4 g848 t845 x849001_4 x849002_4 ((rd_T76 l0 x9_4).f0) ((rd_T76 l0 x9_4).f1) ((rd_T76 l0 x9_4).f2) _ _ ((rd_T76 l0 x9_4).f3) _ _ ((rd_T76 l0 x9_4).f4) true t851 t852 w _ ?side1 ?side2 ?side3 ?side4 ?side5 ?side6 ?side7 ?side8 A42.out).mono ?_); (case side1 => repeat (first | (with_reducible first | exact HI848.out | apply IsB46.alloc | apply IsB46.drewN | apply IsB46.drew | apply IsB46.set_1 | apply IsB46.set_2) | exact HI848.out)); (case side2 => repeat (first | (with_reducible first | exact HB.out | apply below_alloc | apply pw_below_drewN | apply below_drew1 | refine below_set ?_ (IsB46.ge HI848.out)) | exact HB.out)); (case side3 => repeat (first | exact (Kd.C_below HR849_3.out HB.out) | (with_reducible refine Kd.C_alloc ?_ _) | (with_reducible refine Kd.C_drewN ?_ _) | (with_reducible refine Kd.C_drew ?_))); (case side4 => exact HC849_3.out); (case side5 => exact Kd.far_C 0 HR849_3.out (IsB46.ge HI848.out)); (case side6 => repeat (first | exact (Kd.C_below HR849_4.out HB.out) | (with_reducible refine Kd.C_alloc ?_ _) | (with_reducible refine Kd.C_drewN ?_ _) | (with_reducible refine Kd.C_drew ?_))); (case side7 => exact HC849_4.out); (case side8 => exact Kd.far_C (⟨#[]⟩ : ByteArray) HR849_4.out (IsB46.ge HI848.out)); rintro e w52 ⟨rfl, hi, hb, hk⟩; refine ⟨_, rfl, ?_⟩; have n0_ := Aside0.mk (hb); have n1_ := Aside0.mk (hi); clear HB; clear HI848; have HB := n0_; have HI848 := n1_; clear n0_ n1_; (try clear hb); (try clear hb2); (try clear hk); (try clear hi)) | ((with_reducible refine gate_callee (f := 43) rfl ?_); refine goesL_ (some 79) rfl rfl Try.func43 (by kernel_rfl) rfl #[.pointer (some ⟨g848, 0, none⟩)] rfl (by (try simp only [List.map_toArray, List.map_cons, List.map_nil]); first | done | rfl | (simp only [List.length_drop, List.length_take]; rfl)) ?_; (with_reducible refine (cursor_Reader_Fault.callsB g848 t845 t851 t852 t853 t854 t855 w _ ?side1 ?side2 A43.out).mono ?_); (case side1 => repeat (first | (with_reducible first | exact HI848.out | apply IsB46.alloc | apply IsB46.drewN | apply IsB46.drew | apply IsB46.set_1 | apply IsB46.set_2) | exact HI848.out)); (case side2 => repeat (first | (with_reducible first | exact HB.out | apply below_alloc | apply pw_below_drewN | apply below_drew1 | refine below_set ?_ (IsB46.ge HI848.out)) | exact HB.out)); rintro e w53 ⟨rfl, hi, hb, hk⟩; refine ⟨_, rfl, ?_⟩; have n0_ := Aside0.mk (hb); have n1_ := Aside0.mk (hi); clear HB; clear HI848; have HB := n0_; have HI848 := n1_; clear n0_ n1_; (try clear hb); (try clear hb2); (try clear hk); (try clear hi)) | (go_at_call 43; (with_reducible refine (cursor_Reader_Fault.callsB g848 t845 t854 t855 t859 t860 t861 w _ ?side1 ?side2 A50.out).mono ?_); (case side1 => repeat (first | (with_reducible first | exact HI848.out | apply IsB46.alloc | apply IsB46.drewN | apply IsB46.drew | apply IsB46.set_1 | apply IsB46.set_2) | exact HI848.out)); (case side2 => repeat (first | (with_reducible first | exact HB.out | apply below_alloc | apply pw_below_drewN | apply below_drew1 | refine below_set ?_ (IsB46.ge HI848.out)) | exact HB.out)); rintro e w54 ⟨rfl, hi, hb, hk⟩; (try clear A50); have n0_ := Aside0.mk (hb); have n1_ := Aside0.mk (hi); clear HB; clear HI848; have HB := n0_; have HI848 := n1_; clear n0_ n1_; (try clear hb); (try clear hb2); (try clear hk); (try clear hi)))
                                          go_roundg k4
                                          case measure => have := HK1.out; have := HK2.out; have := HJ24.out; have := HK4.out; omega
                                          case rel => exact ⟨(wrap64 (x9_4 + 1)), (t860), (t861), (by first | rfl | (simp; done) | (simp [*]; done)), H', ⟨by have := HK1.out; have := HK2.out; have := HJ24.out; have := HK4.out; omega⟩, ⟨by repeat (first | (with_reducible first | exact HI848.out | apply IsB46.alloc | apply IsB46.drewN | apply IsB46.drew | apply IsB46.set_1 | apply IsB46.set_2) | exact HI848.out)⟩, ⟨by repeat (first | (with_reducible first | exact HB.out | apply below_alloc | apply pw_below_drewN | apply below_drew1 | refine below_set ?_ (IsB46.ge HI848.out)) | exact HB.out)⟩⟩
                                        · rw [if_neg c51] at H
                                          exact absurd ((Option.some.inj H).trans htrue.out) (by decide)
                                      · replace c49 := Bool.eq_false_iff.mpr c49
                                        subst c49
                                        have H1 : (some false) = some r := by rw [if_neg (show ¬ (false = true) by decide)] at H; exact H
                                        exact absurd ((Option.some.inj H1).trans htrue.out) (by decide)
                                  · rw [if_neg c41] at H
                                    exact absurd H (by simp)
                                · rw [if_neg c40] at H
                                  have c40b0 : decide (x9_4 < (l0.length : Int)) = false := decide_eq_false c40
                                  clear c40
                                  obtain rfl := Option.some.inj H
                                  go_wp2
                                  go_ret
                                  exact ⟨by first | rfl | (simp [errW_none, errW_some] <;> rfl) | (simp [*, errW_none, errW_some] <;> rfl), by repeat (first | (with_reducible first | exact HB.out | apply below_alloc | apply pw_below_drewN | apply below_drew1 | refine below_set ?_ (IsB46.ge HI848.out)) | exact HB.out)⟩
                          · rw [if_neg c36] at H
                            exact absurd H (by simp)
                        · rw [if_neg c35] at H
                          exact absurd H (by simp)
  · replace c4 := Bool.eq_false_iff.mpr c4
    subst c4
    have H1 : (some false) = some r := by rw [if_neg (show ¬ (false = true) by decide)] at H; exact H
    exact absurd ((Option.some.inj H1).trans htrue.out) (by decide)
end Go.Proofs.Ythpoomdillhcbaa.Pa
