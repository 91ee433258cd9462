/- The texts of RunsFewest, merged: part 38. -/
import Derived.Test.YthlpkdmandcngaaQRunsFewest5
import Derived.Test.YthlpkdmandcngaaQRunsFewest9
import Derived.Test.YthlpkdmandcngaaQRunsFewest14
import Derived.Test.YthlpkdmandcngaaQRunsFewest37
import Derived.Test.YthlpkdmandcngaaQRunsFewest11
import Derived.Test.YthlpkdmandcngaaQRunsFewest13
-- Written by xprint.py, a program of this session, over the kit's print. Not trusted: Lean checks it.
namespace Go.Proofs.Ythlpkdmandcngaa.Pa
open Go.RowKit Go.Proofs.YthlpkdmandcngaaW.PrintWords Go.Proofs.YthlpkdmandcngaaW.PrintLast Go.Proofs.YthlpkdmandcngaaW.PrintMore
attribute [local go_sem] max2_int min2_int max_two min_two max_three min_three max_four min_four   -- for this text's walks alone
attribute [local go_sem] run_store_float cmp_feq cmp_fne cmp_flt cmp_fle cmp_fgt cmp_fge un_fneg equalIn_feq run_fop run_fint run_freal cmp_sgt
set_option linter.unusedVariables false
set_option linter.unusedSimpArgs false

/-! ### colonnadelaw10_RunsFewest: function 6 -/
mutual
def colonnadelaw10_RunsFewest.j0 : Nat → List ByteArray → List (S42) → List (S42) → Bool → Option (Bool)
  | 0, _, _, _, _ => none
  | k + 1, x0, x1, x5, x37 => if x37 = true then (some false) else (colonnadelaw10_RunsFewest.l0 k x0 x1 x5 0)
def colonnadelaw10_RunsFewest.l0 : Nat → List ByteArray → List (S42) → List (S42) → Int → Option (Bool)
  | 0, _, _, _, _ => none
  | k + 1, x0, x1, x5, x8 => if x8 < (x0.length : Int) then (colonnadelaw10_RunsFewest.j2 k x0 x1 x5 x8 (decide (x8 < 2000))) else (colonnadelaw10_RunsFewest.j2 k x0 x1 x5 x8 false)
def colonnadelaw10_RunsFewest.j2 : Nat → List ByteArray → List (S42) → List (S42) → Int → Bool → Option (Bool)
  | 0, _, _, _, _, _ => none
  | k + 1, x0, x1, x5, x8, x45 => if x45 = true then ((runs_At_string.f k x5 x8).bind fun bt559 => (if 0 ≤ x8 then (if x8 < (x0.length : Int) then (if bt559.1.toList = (rdOf ByteArray.empty x0 x8).toList then (if bt559.2 = true then (colonnadelaw10_RunsFewest.l0 k x0 x1 x5 (wrap64 (x8 + 1))) else (some false)) else (some false)) else (none)) else (none))) else ((runs_At_string.f k x5 (x0.length : Int)).bind fun bt562 => ((runs_Unfold_string.f k x1).bind fun bt564 => (if bt562.2 = true then (some false) else (if bt564.2 = 0 then ((runs_Fold_string.f k bt564.1).bind fun t568 => ((runs_Unfold_string.f k t568).bind fun bt571 => (if bt571.2 = 0 then (if (t568.length : Int) ≤ (x1.length : Int) then ((colonnadelaw10_same_string.f k bt571.1 bt564.1).bind fun t575 => (some t575)) else (some false)) else (some false)))) else (some ((bt564.1.length : Int) == 0))))))
end
def colonnadelaw10_RunsFewest.f (k : Nat) (l0 : List ByteArray) (l1 : List (S42)) : Option (Bool) := (colonnadelaw10_awake.f k).bind fun t550 => (if t550 = true then (if (l0.length : Int) > 16777216 then (some true) else ((runs_Fold_string.f k l0).bind fun t551 => ((runs_Unfold_string.f k t551).bind fun bt554 => (if bt554.2 = 0 then ((colonnadelaw10_same_string.f k bt554.1 l0).bind fun t558 => (colonnadelaw10_RunsFewest.j0 k l0 l1 t551 (!t558))) else (colonnadelaw10_RunsFewest.j0 k l0 l1 t551 true))))) else (some false))
theorem colonnadelaw10_RunsFewest.mono_l : ∀ k, (∀ y0 y1 y2 y3, LeO (colonnadelaw10_RunsFewest.j0 k y0 y1 y2 y3) (colonnadelaw10_RunsFewest.j0 (k + 1) y0 y1 y2 y3)) ∧ (∀ y0 y1 y2 y3, LeO (colonnadelaw10_RunsFewest.l0 k y0 y1 y2 y3) (colonnadelaw10_RunsFewest.l0 (k + 1) y0 y1 y2 y3)) ∧ (∀ y0 y1 y2 y3 y4, LeO (colonnadelaw10_RunsFewest.j2 k y0 y1 y2 y3 y4) (colonnadelaw10_RunsFewest.j2 (k + 1) y0 y1 y2 y3 y4))
  | 0 => ⟨fun _ _ _ _ r h => by simp [colonnadelaw10_RunsFewest.j0] at h, fun _ _ _ _ r h => by simp [colonnadelaw10_RunsFewest.l0] at h, fun _ _ _ _ _ r h => by simp [colonnadelaw10_RunsFewest.j2] at h⟩
  | k + 1 => by
    obtain ⟨ih0, ih1, ih2⟩ := colonnadelaw10_RunsFewest.mono_l k
    refine ⟨?_, ?_, ?_⟩
    · intro y0 y1 y2 y3
      unfold colonnadelaw10_RunsFewest.j0
      repeat' first
      | (with_reducible exact ih0 _ _ _ _)
      | (with_reducible exact ih1 _ _ _ _)
      | (with_reducible exact ih2 _ _ _ _ _)
      | (with_reducible exact colonnadelaw10_awake.mono _)
      | (with_reducible exact colonnadelaw10_same_string.mono _ _ _)
      | (with_reducible exact runs_At_string.mono _ _ _)
      | (with_reducible exact runs_Fold_string.mono _ _)
      | (with_reducible exact runs_Unfold_string.mono _ _)
      | (with_reducible exact LeO.refl _)
      | (with_reducible exact LeO.none _)
      | (with_reducible refine LeO.ite ?_ ?_)
      | (with_reducible refine LeO.bind ?_ (fun _ => ?_))
      | exact ih0 _ _ _ _
      | exact ih1 _ _ _ _
      | exact ih2 _ _ _ _ _
      | exact colonnadelaw10_awake.mono _
      | exact colonnadelaw10_same_string.mono _ _ _
      | exact runs_At_string.mono _ _ _
      | exact runs_Fold_string.mono _ _
      | exact runs_Unfold_string.mono _ _
      | exact LeO.none _
      | refine LeO.ite ?_ ?_
      | refine LeO.bind ?_ (fun _ => ?_)
    · intro y0 y1 y2 y3
      unfold colonnadelaw10_RunsFewest.l0
      repeat' first
      | (with_reducible exact ih0 _ _ _ _)
      | (with_reducible exact ih1 _ _ _ _)
      | (with_reducible exact ih2 _ _ _ _ _)
      | (with_reducible exact colonnadelaw10_awake.mono _)
      | (with_reducible exact colonnadelaw10_same_string.mono _ _ _)
      | (with_reducible exact runs_At_string.mono _ _ _)
      | (with_reducible exact runs_Fold_string.mono _ _)
      | (with_reducible exact runs_Unfold_string.mono _ _)
      | (with_reducible exact LeO.refl _)
      | (with_reducible exact LeO.none _)
      | (with_reducible refine LeO.ite ?_ ?_)
      | (with_reducible refine LeO.bind ?_ (fun _ => ?_))
      | exact ih0 _ _ _ _
      | exact ih1 _ _ _ _
      | exact ih2 _ _ _ _ _
      | exact colonnadelaw10_awake.mono _
      | exact colonnadelaw10_same_string.mono _ _ _
      | exact runs_At_string.mono _ _ _
      | exact runs_Fold_string.mono _ _
      | exact runs_Unfold_string.mono _ _
      | exact LeO.none _
      | refine LeO.ite ?_ ?_
      | refine LeO.bind ?_ (fun _ => ?_)
    · intro y0 y1 y2 y3 y4
      unfold colonnadelaw10_RunsFewest.j2
      repeat' first
      | (with_reducible exact ih0 _ _ _ _)
      | (with_reducible exact ih1 _ _ _ _)
      | (with_reducible exact ih2 _ _ _ _ _)
      | (with_reducible exact colonnadelaw10_awake.mono _)
      | (with_reducible exact colonnadelaw10_same_string.mono _ _ _)
      | (with_reducible exact runs_At_string.mono _ _ _)
      | (with_reducible exact runs_Fold_string.mono _ _)
      | (with_reducible exact runs_Unfold_string.mono _ _)
      | (with_reducible exact LeO.refl _)
      | (with_reducible exact LeO.none _)
      | (with_reducible refine LeO.ite ?_ ?_)
      | (with_reducible refine LeO.bind ?_ (fun _ => ?_))
      | exact ih0 _ _ _ _
      | exact ih1 _ _ _ _
      | exact ih2 _ _ _ _ _
      | exact colonnadelaw10_awake.mono _
      | exact colonnadelaw10_same_string.mono _ _ _
      | exact runs_At_string.mono _ _ _
      | exact runs_Fold_string.mono _ _
      | exact runs_Unfold_string.mono _ _
      | exact LeO.none _
      | refine LeO.ite ?_ ?_
      | refine LeO.bind ?_ (fun _ => ?_)
theorem colonnadelaw10_RunsFewest.mono : ∀ a0 a1 k, LeO (colonnadelaw10_RunsFewest.f k a0 a1) (colonnadelaw10_RunsFewest.f (k + 1) a0 a1) := by
  intro a0 a1 k
  obtain ⟨ih0, ih1, ih2⟩ := colonnadelaw10_RunsFewest.mono_l k
  unfold colonnadelaw10_RunsFewest.f
  repeat' first
      | (with_reducible exact ih0 _ _ _ _)
      | (with_reducible exact ih1 _ _ _ _)
      | (with_reducible exact ih2 _ _ _ _ _)
      | (with_reducible exact colonnadelaw10_awake.mono _)
      | (with_reducible exact colonnadelaw10_same_string.mono _ _ _)
      | (with_reducible exact runs_At_string.mono _ _ _)
      | (with_reducible exact runs_Fold_string.mono _ _)
      | (with_reducible exact runs_Unfold_string.mono _ _)
      | (with_reducible exact LeO.refl _)
      | (with_reducible exact LeO.none _)
      | (with_reducible refine LeO.ite ?_ ?_)
      | (with_reducible refine LeO.bind ?_ (fun _ => ?_))
      | exact ih0 _ _ _ _
      | exact ih1 _ _ _ _
      | exact ih2 _ _ _ _ _
      | exact colonnadelaw10_awake.mono _
      | exact colonnadelaw10_same_string.mono _ _ _
      | exact runs_At_string.mono _ _ _
      | exact runs_Fold_string.mono _ _
      | exact runs_Unfold_string.mono _ _
      | exact LeO.none _
      | refine LeO.ite ?_ ?_
      | refine LeO.bind ?_ (fun _ => ?_)
theorem colonnadelaw10_RunsFewest.j0_dead {k : Nat} {y0 : List ByteArray} {y1 : List (S42)} {y2 : List (S42)} {r : Bool} (h : colonnadelaw10_RunsFewest.j0 k y0 y1 y2 true = some r) : false = r := by
  cases k with
  | zero => rw [colonnadelaw10_RunsFewest.j0] at h; cases h
  | succ k => rw [colonnadelaw10_RunsFewest.j0, if_pos rfl] at h; exact Option.some.inj h
set_option maxHeartbeats 8000000 in
set_option maxRecDepth 100000 in
theorem colonnadelaw10_RunsFewest.calls (k : Nat) (A0 : Option Addr) (c0 : Nat) (l0 : List ByteArray) (A1 : Option Addr) (c1 : Nat) (l1 : List (S42)) (r : Bool) (w : World) (hr0 : Kd.C Kd.string w A0 l0.length l0) (hc0 : l0.length ≤ c0) (hr1 : Kd.C k42 w A1 l1.length l1) (hc1 : l1.length ≤ c1) (h : colonnadelaw10_RunsFewest.f k l0 l1 = some r) (htrue : Aside0 (r = true)) :
    Calls Try.prog 6 #[.slice A0 l0.length c0, .slice A1 l1.length c1] w fun e w' => e = .returned (.bool r) ∧ Below w.heap.size w w' := by
  have HR0 := Aside0.mk hr0
  have HC0 := Aside0.mk hc0
  clear hr0 hc0
  have HR1 := Aside0.mk hr1
  have HC1 := Aside0.mk hc1
  clear hr1 hc1
  have HB := Aside0.mk (Below.refl w.heap.size w)
  have H : ((colonnadelaw10_awake.f k).bind fun t550 => (if t550 = true then (if (l0.length : Int) > 16777216 then (some true) else ((runs_Fold_string.f k l0).bind fun t551 => ((runs_Unfold_string.f k t551).bind fun bt554 => (if bt554.2 = 0 then ((colonnadelaw10_same_string.f k bt554.1 l0).bind fun t558 => (colonnadelaw10_RunsFewest.j0 k l0 l1 t551 (!t558))) else (colonnadelaw10_RunsFewest.j0 k l0 l1 t551 true))))) else (some false))) = some r := h
  clear h
  replace H := Option.bind_eq_some_iff.mp H
  obtain ⟨t550, A30, H⟩ := H
  replace H : (if t550 = true then (if (l0.length : Int) > 16777216 then (some true) else ((runs_Fold_string.f k l0).bind fun t551 => ((runs_Unfold_string.f k t551).bind fun bt554 => (if bt554.2 = 0 then ((colonnadelaw10_same_string.f k bt554.1 l0).bind fun t558 => (colonnadelaw10_RunsFewest.j0 k l0 l1 t551 (!t558))) else (colonnadelaw10_RunsFewest.j0 k l0 l1 t551 true))))) else (some false)) = some r := H
  have A3 := Aside0.mk A30
  clear A30
  by_cases c4 : t550 = true
  · subst c4
    have H1 : (if (l0.length : Int) > 16777216 then (some true) else ((runs_Fold_string.f k l0).bind fun t551 => ((runs_Unfold_string.f k t551).bind fun bt554 => (if bt554.2 = 0 then ((colonnadelaw10_same_string.f k bt554.1 l0).bind fun t558 => (colonnadelaw10_RunsFewest.j0 k l0 l1 t551 (!t558))) else (colonnadelaw10_RunsFewest.j0 k l0 l1 t551 true))))) = some r := by rw [if_pos rfl] at H; exact H
    clear H
    have H := H1
    clear H1
    by_cases c5 : (l0.length : Int) > 16777216
    · rw [if_pos c5] at H
      have c5b0 : decide (16777216 < (l0.length : Int)) = true := decide_eq_true c5
      have c5b1 : decide (16777216 < l0.length) = true := decide_eq_true (by omega)
      clear c5
      obtain rfl := Option.some.inj H
      go_enter Try.func6, Try.ntmps6
      go_wp2_with (first | ((with_reducible refine gate_callee (f := 30) rfl ?_); refine goesL_ (some 18) rfl rfl Try.func30 (by kernel_rfl) rfl #[] rfl (by (try simp only [List.map_toArray, List.map_cons, List.map_nil]); first | done | rfl | (simp only [List.length_drop, List.length_take]; rfl)) ?_; (with_reducible refine (colonnadelaw10_awake.calls k  true _ A3.out).mono ?_); rintro e w6 ⟨rfl, hb⟩; refine ⟨_, rfl, ?_⟩; have n0_ := Aside0.mk (below_step (by repeat (first | (with_reducible first | exact HB.out | apply below_alloc | apply pw_below_drewN | apply below_drew1) | exact HB.out)) hb); clear HB; have HB := n0_; clear n0_; (try clear hb); (try clear hb2); (try clear hk); (try clear hi)))
      go_ret
      exact ⟨by first | rfl | (simp [errW_none, errW_some] <;> rfl) | (simp [*, errW_none, errW_some] <;> rfl), by repeat (first | (with_reducible first | exact HB.out | apply below_alloc | apply pw_below_drewN | apply below_drew1) | exact HB.out)⟩
    · rw [if_neg c5] at H
      have c5b0 : decide (16777216 < (l0.length : Int)) = false := decide_eq_false c5
      have c5b1 : decide (16777216 < l0.length) = false := decide_eq_false (by omega)
      clear c5
      replace H := Option.bind_eq_some_iff.mp H
      obtain ⟨t551, A70, H⟩ := H
      replace H : ((runs_Unfold_string.f k t551).bind fun bt554 => (if bt554.2 = 0 then ((colonnadelaw10_same_string.f k bt554.1 l0).bind fun t558 => (colonnadelaw10_RunsFewest.j0 k l0 l1 t551 (!t558))) else (colonnadelaw10_RunsFewest.j0 k l0 l1 t551 true))) = some r := H
      have A7 := Aside0.mk A70
      clear A70
      replace H := Option.bind_eq_some_iff.mp H
      obtain ⟨⟨t554, t555⟩, A80, H⟩ := H
      replace H : (if t555 = 0 then ((colonnadelaw10_same_string.f k t554 l0).bind fun t558 => (colonnadelaw10_RunsFewest.j0 k l0 l1 t551 (!t558))) else (colonnadelaw10_RunsFewest.j0 k l0 l1 t551 true)) = some r := H
      have A8 := Aside0.mk A80
      clear A80
      have HC9 := Aside0.mk H
      clear H
      go_enter Try.func6, Try.ntmps6
      go_upto_region 7 with (first | ((with_reducible refine gate_callee (f := 30) rfl ?_); refine goesL_ (some 18) rfl rfl Try.func30 (by kernel_rfl) rfl #[] rfl (by (try simp only [List.map_toArray, List.map_cons, List.map_nil]); first | done | rfl | (simp only [List.length_drop, List.length_take]; rfl)) ?_; (with_reducible refine (colonnadelaw10_awake.calls k  true _ A3.out).mono ?_); rintro e w10 ⟨rfl, hb⟩; refine ⟨_, rfl, ?_⟩; have n0_ := Aside0.mk (below_step (by repeat (first | (with_reducible first | exact HB.out | apply below_alloc | apply pw_below_drewN | apply below_drew1) | exact HB.out)) hb); clear HB; have HB := n0_; clear n0_; (try clear hb); (try clear hb2); (try clear hk); (try clear hi)) | ((with_reducible refine gate_callee (f := 20) rfl ?_); refine goesL_ (some 24) rfl rfl Try.func20 (by kernel_rfl) rfl #[.slice A0 l0.length c0] rfl (by (try simp only [List.map_toArray, List.map_cons, List.map_nil]); first | done | rfl | (simp only [List.length_drop, List.length_take]; rfl)) ?_; (with_reducible refine (runs_Fold_string.calls k _ _ l0 t551 _ ?side1 ?side2 A7.out).mono ?_); (case side1 => repeat (first | exact (Kd.C_below HR0.out HB.out) | (with_reducible refine Kd.C_alloc ?_ _) | (with_reducible refine Kd.C_drewN ?_ _) | (with_reducible refine Kd.C_drew ?_))); (case side2 => exact HC0.out); rintro e w11 ⟨v552, rfl, ho0, hb⟩; refine ⟨_, rfl, ?_⟩; have n0_ := Aside0.mk (Kd.R_lower ho0 (below_size (by repeat (first | (with_reducible first | exact HB.out | apply below_alloc | apply pw_below_drewN | apply below_drew1) | exact HB.out)))); have n1_ := Aside0.mk (below_step (by repeat (first | (with_reducible first | exact HB.out | apply below_alloc | apply pw_below_drewN | apply below_drew1) | exact HB.out)) hb); clear HB; have HO553 := n0_; have HB := n1_; clear n0_ n1_; (try clear hb); (try clear hb2); (try clear hk); (try clear hi); (try clear ho0); obtain ⟨Ao12, co12, eo12⟩ := Kd.R_slice HO553.out; subst eo12) | ((with_reducible refine gate_callee (f := 31) rfl ?_); refine goesL_ (some 27) rfl rfl Try.func31 (by kernel_rfl) rfl #[.slice Ao12 t551.length co12] rfl (by (try simp only [List.map_toArray, List.map_cons, List.map_nil]); first | done | rfl | (simp only [List.length_drop, List.length_take]; rfl)) ?_; (with_reducible refine (runs_Unfold_string.calls k _ _ t551 t554 t555 _ ?side1 ?side2 A8.out).mono ?_); (case side1 => repeat (first | exact (Kd.R_reads' HO553.out).2.2 | (with_reducible refine Kd.C_alloc ?_ _) | (with_reducible refine Kd.C_drewN ?_ _) | (with_reducible refine Kd.C_drew ?_))); (case side2 => exact (Kd.R_reads' HO553.out).2.1); rintro e w13 ⟨v556, rfl, ho0, hb⟩; refine ⟨_, rfl, ?_⟩; have n0_ := Aside0.mk (Kd.R_below (by (with_reducible repeat (first | apply Kd.R_alloc | apply Kd.R_drewN | apply Kd.R_drew)); exact HO553.out) hb); have n1_ := Aside0.mk (Kd.R_lower ho0 (below_size (by repeat (first | (with_reducible first | exact HB.out | apply below_alloc | apply pw_below_drewN | apply below_drew1) | exact HB.out)))); have n2_ := Aside0.mk (below_step (by repeat (first | (with_reducible first | exact HB.out | apply below_alloc | apply pw_below_drewN | apply below_drew1) | exact HB.out)) hb); clear HO553; clear HB; have HO553 := n0_; have HO557 := n1_; have HB := n2_; clear n0_ n1_ n2_; (try clear hb); (try clear hb2); (try clear hk); (try clear hi); (try clear ho0)))
      (try simp only [Act.put, List.setIfInBounds_toArray, List.set_cons_zero, List.set_cons_succ])
      go_cut [37] (fun v37 wc => ∃ (kq : Nat) (x37_8 : Bool), v37 = .bool x37_8 ∧ Aside0 (colonnadelaw10_RunsFewest.j0 kq l0 l1 t551 x37_8 = some r) ∧ Aside0 (kq ≤ k) ∧ Aside0 (Kd.R k42 42 wc w.heap.size (fun _ => True) (.slice Ao12 t551.length co12) t551) ∧ Aside0 (Below w.heap.size w wc))
      case first =>
        have H := HC9.out
        clear HC9
        by_cases c14 : t555 = 0
        · rw [if_pos c14] at H
          have c14b0 : (t555 == 0) = true := beq_iff_eq.mpr c14
          have c14b1 : (t555 != 0) = false := bne_eq_false_iff_eq.mpr c14
          clear c14
          (first | rw [c14b0] | (simp only [i64_w, i32_w]; rw [c14b0]) | skip)
          replace H := Option.bind_eq_some_iff.mp H
          obtain ⟨t558, A150, H⟩ := H
          replace H : (colonnadelaw10_RunsFewest.j0 k l0 l1 t551 (!t558)) = some r := H
          have A15 := Aside0.mk A150
          clear A150
          have H' := Aside0.mk H
          clear H
          obtain ⟨Ao16, co16, eo16⟩ := Kd.R_slice HO557.out
          subst eo16
          go_wp2_with (first | (go_at_call 32; (with_reducible refine (colonnadelaw10_same_string.calls k _ _ t554 _ _ l0 t558 _ ?side1 ?side2 ?side3 ?side4 A15.out).mono ?_); (case side1 => repeat (first | exact (Kd.R_reads' HO557.out).2.2 | (with_reducible refine Kd.C_alloc ?_ _) | (with_reducible refine Kd.C_drewN ?_ _) | (with_reducible refine Kd.C_drew ?_))); (case side2 => exact (Kd.R_reads' HO557.out).2.1); (case side3 => repeat (first | exact (Kd.C_below HR0.out HB.out) | (with_reducible refine Kd.C_alloc ?_ _) | (with_reducible refine Kd.C_drewN ?_ _) | (with_reducible refine Kd.C_drew ?_))); (case side4 => exact HC0.out); rintro e w' ⟨rfl, ⟨nd, rfl⟩⟩))
          go_meet
          case rel => exact ⟨_, (!t558), (by first | rfl | (simp; done) | (simp [*]; done)), H', ⟨by first | omega | exact Nat.le_refl _⟩, ⟨by (with_reducible repeat (first | apply Kd.R_alloc | apply Kd.R_drewN | apply Kd.R_drew)); exact HO553.out⟩, ⟨by repeat (first | (with_reducible first | exact HB.out | apply below_alloc | apply pw_below_drewN | apply below_drew1) | exact HB.out)⟩⟩
        · rw [if_neg c14] at H
          exact absurd ((colonnadelaw10_RunsFewest.j0_dead H).trans htrue.out) (by decide)
      case rest =>
        clear HC9
        try clear c1
        try clear c2
        try clear p2
        try clear c3
        try clear c4
        try clear c5
        try clear c5b0
        try clear c5b1
        try clear c6
        try clear c14
        try clear c14b0
        try clear c14b1
        obtain ⟨kq, x37_8, rfl, HA, HJ8, HO_5, HB⟩ := hcut
        cases kq with
        | zero => exact absurd HA.out (by simp [colonnadelaw10_RunsFewest.j0])
        | succ kj8 =>
          have H := HA.out
          clear HA
          simp only [colonnadelaw10_RunsFewest.j0] at H
          by_cases c17 : x37_8 = true
          · subst c17
            have H1 : (some false) = some r := by rw [if_pos rfl] at H; exact H
            exact absurd ((Option.some.inj H1).trans htrue.out) (by decide)
          · replace c17 := Bool.eq_false_iff.mpr c17
            subst c17
            have H1 : (colonnadelaw10_RunsFewest.l0 kj8 l0 l1 t551 0) = some r := by rw [if_neg (show ¬ (false = true) by decide)] at H; exact H
            clear H
            have H := H1
            clear H1
            have H' := Aside0.mk H
            clear H
            go_wp2
            go_loopg [8] kj8 (fun kq v8 w' => ∃ (x8_2 : Int), v8 = .int .i64 x8_2 ∧ Aside0 (colonnadelaw10_RunsFewest.l0 kq l0 l1 t551 x8_2 = some r) ∧ Aside0 (kq ≤ kj8) ∧ Aside0 (Kd.R k42 42 w' w.heap.size (fun _ => True) (.slice Ao12 t551.length co12) t551) ∧ Aside0 (Below w.heap.size w w'))
            case atStart => exact ⟨(0), (by first | rfl | (simp; done) | (simp [*]; done)), H', ⟨Nat.le_refl _⟩, ⟨by (with_reducible repeat (first | apply Kd.R_alloc | apply Kd.R_drewN | apply Kd.R_drew)); exact HO_5.out⟩, ⟨by repeat (first | (with_reducible first | exact HB.out | apply below_alloc | apply pw_below_drewN | apply below_drew1) | exact HB.out)⟩⟩
            case round =>
              clear H'
              try clear c1
              try clear c2
              try clear p2
              try clear c3
              try clear c4
              try clear c5
              try clear c5b0
              try clear c5b1
              try clear c6
              try clear c14
              try clear c14b0
              try clear c14b1
              try clear c17
              try clear p2
              obtain ⟨x8_2, rfl, HA, HK2, HO_5, HB⟩ := hrel
              cases gk with
              | zero => exact absurd HA.out (by simp [colonnadelaw10_RunsFewest.l0])
              | succ k2 =>
                have H := HA.out
                clear HA
                simp only [colonnadelaw10_RunsFewest.l0] at H
                have HC18 := Aside0.mk H
                clear H
                go_upto_region 10 with (fail)
                go_cut [45] (fun v45 wc => ∃ (kq : Nat) (x45_17 : Bool), v45 = .bool x45_17 ∧ Aside0 (colonnadelaw10_RunsFewest.j2 kq l0 l1 t551 x8_2 x45_17 = some r) ∧ Aside0 (kq ≤ k2) ∧ Aside0 (Kd.R k42 42 wc w.heap.size (fun _ => True) (.slice Ao12 t551.length co12) t551) ∧ Aside0 (Below w.heap.size w wc))
                case first =>
                  have H := HC18.out
                  clear HC18
                  by_cases c19 : x8_2 < (l0.length : Int)
                  · rw [if_pos c19] at H
                    have c19b0 : decide (x8_2 < (l0.length : Int)) = true := decide_eq_true c19
                    clear c19
                    (first | rw [c19b0] | (simp only [i64_w, i32_w]; rw [c19b0]) | skip)
                    have H' := Aside0.mk H
                    clear H
                    go_wp2
                    go_meet
                    case rel => exact ⟨_, (decide (x8_2 < 2000)), (by first | rfl | (simp; done) | (simp [*]; done)), H', ⟨by have := HJ8.out; have := HK2.out; first | omega | exact Nat.le_refl _⟩, ⟨by (with_reducible repeat (first | apply Kd.R_alloc | apply Kd.R_drewN | apply Kd.R_drew)); exact HO_5.out⟩, ⟨by repeat (first | (with_reducible first | exact HB.out | apply below_alloc | apply pw_below_drewN | apply below_drew1) | exact HB.out)⟩⟩
                  · rw [if_neg c19] at H
                    have c19b0 : decide (x8_2 < (l0.length : Int)) = false := decide_eq_false c19
                    clear c19
                    (first | rw [c19b0] | (simp only [i64_w, i32_w]; rw [c19b0]) | skip)
                    have H' := Aside0.mk H
                    clear H
                    go_wp2
                    go_meet
                    case rel => exact ⟨_, (false), (by first | rfl | (simp; done) | (simp [*]; done)), H', ⟨by have := HJ8.out; have := HK2.out; first | omega | exact Nat.le_refl _⟩, ⟨by (with_reducible repeat (first | apply Kd.R_alloc | apply Kd.R_drewN | apply Kd.R_drew)); exact HO_5.out⟩, ⟨by repeat (first | (with_reducible first | exact HB.out | apply below_alloc | apply pw_below_drewN | apply below_drew1) | exact HB.out)⟩⟩
                case rest =>
                  clear HC18
                  try clear c1
                  try clear c2
                  try clear p2
                  try clear c3
                  try clear c4
                  try clear c5
                  try clear c5b0
                  try clear c5b1
                  try clear c6
                  try clear c14
                  try clear c14b0
                  try clear c14b1
                  try clear c17
                  try clear c19
                  try clear c19b0
                  try clear p2
                  obtain ⟨kq, x45_17, rfl, HA, HJ17, HO_5, HB⟩ := hcut
                  cases kq with
                  | zero => exact absurd HA.out (by simp [colonnadelaw10_RunsFewest.j2])
                  | succ kj17 =>
                    have H := HA.out
                    clear HA
                    simp only [colonnadelaw10_RunsFewest.j2] at H
                    by_cases c20 : x45_17 = true
                    · subst c20
                      have H1 : ((runs_At_string.f kj17 t551 x8_2).bind fun bt559 => (if 0 ≤ x8_2 then (if x8_2 < (l0.length : Int) then (if bt559.1.toList = (rdOf ByteArray.empty l0 x8_2).toList then (if bt559.2 = true then (colonnadelaw10_RunsFewest.l0 kj17 l0 l1 t551 (wrap64 (x8_2 + 1))) else (some false)) else (some false)) else (none)) else (none))) = some r := by rw [if_pos rfl] at H; exact H
                      clear H
                      have H := H1
                      clear H1
                      replace H := Option.bind_eq_some_iff.mp H
                      obtain ⟨⟨t559, t560⟩, A210, H⟩ := H
                      replace H : (if 0 ≤ x8_2 then (if x8_2 < (l0.length : Int) then (if t559.toList = (rdOf ByteArray.empty l0 x8_2).toList then (if t560 = true then (colonnadelaw10_RunsFewest.l0 kj17 l0 l1 t551 (wrap64 (x8_2 + 1))) else (some false)) else (some false)) else (none)) else (none)) = some r := H
                      have A21 := Aside0.mk A210
                      clear A210
                      by_cases c22 : 0 ≤ x8_2
                      · rw [if_pos c22] at H
                        have c22b0 : decide (0 ≤ x8_2) = true := decide_eq_true c22
                        clear c22
                        by_cases c23 : x8_2 < (l0.length : Int)
                        · rw [if_pos c23] at H
                          have c23b0 : decide (x8_2 < (l0.length : Int)) = true := decide_eq_true c23
                          clear c23
                          by_cases c24 : t559.toList = (rdOf ByteArray.empty l0 x8_2).toList
                          · rw [if_pos c24] at H
                            have c24b0 : (t559.toList == (rdOf ByteArray.empty l0 x8_2).toList) = true := beq_iff_eq.mpr c24
                            have c24b1 : (t559.toList != (rdOf ByteArray.empty l0 x8_2).toList) = false := bne_eq_false_iff_eq.mpr c24
                            clear c24
                            by_cases c25 : t560 = true
                            · subst c25
                              have H1 : (colonnadelaw10_RunsFewest.l0 kj17 l0 l1 t551 (wrap64 (x8_2 + 1))) = some r := by rw [if_pos rfl] at H; exact H
                              clear H
                              have H := H1
                              clear H1
                              have H' := Aside0.mk H
                              clear H
                              go_wp2_with (first | ((with_reducible refine gate_callee (f := 33) rfl ?_); refine goesL_ (some 51) rfl rfl Try.func33 (by kernel_rfl) rfl #[.slice Ao12 t551.length co12, .int .i64 x8_2] rfl (by (try simp only [List.map_toArray, List.map_cons, List.map_nil]); first | done | rfl | (simp only [List.length_drop, List.length_take]; rfl)) ?_; (with_reducible refine (runs_At_string.calls kj17 _ _ t551 x8_2 t559 true _ ?side1 ?side2 A21.out).mono ?_); (case side1 => repeat (first | exact (Kd.R_reads' HO_5.out).2.2 | (with_reducible refine Kd.C_alloc ?_ _) | (with_reducible refine Kd.C_drewN ?_ _) | (with_reducible refine Kd.C_drew ?_))); (case side2 => exact (Kd.R_reads' HO_5.out).2.1); rintro e w26 ⟨rfl, hb⟩; refine ⟨_, rfl, ?_⟩; have n0_ := Aside0.mk (Kd.R_below (by (with_reducible repeat (first | apply Kd.R_alloc | apply Kd.R_drewN | apply Kd.R_drew)); exact HO_5.out) hb); have n1_ := Aside0.mk (below_step (by repeat (first | (with_reducible first | exact HB.out | apply below_alloc | apply pw_below_drewN | apply below_drew1) | exact HB.out)) hb); clear HO_5; clear HB; have HO_5 := n0_; have HB := n1_; clear n0_ n1_; (try clear hb); (try clear hb2); (try clear hk); (try clear hi); have p561 : 0 ≤ (x8_2 : Int) := of_decide_eq_true (by first | (with_reducible assumption) | assumption); have q561 : x8_2 < (l0.length : Int) := of_decide_eq_true (by first | (with_reducible assumption) | assumption); obtain ⟨ad561, e561, hx561_0⟩ := Kd.at_string HR0.out x8_2 p561 q561; cases e561; replace hx561_0 := (HB.out.cell (World.block_lt_of_cell? w _ hx561_0)).trans hx561_0; replace p561 := eq_true p561; replace q561 := eq_true q561))
                              go_roundg kj17
                              case measure => have := HJ8.out; have := HK2.out; have := HJ17.out; omega
                              case rel => exact ⟨(wrap64 (x8_2 + 1)), (by first | rfl | (simp; done) | (simp [*]; done)), H', ⟨by have := HJ8.out; have := HK2.out; have := HJ17.out; omega⟩, ⟨by (with_reducible repeat (first | apply Kd.R_alloc | apply Kd.R_drewN | apply Kd.R_drew)); exact HO_5.out⟩, ⟨by repeat (first | (with_reducible first | exact HB.out | apply below_alloc | apply pw_below_drewN | apply below_drew1) | exact HB.out)⟩⟩
                            · replace c25 := Bool.eq_false_iff.mpr c25
                              subst c25
                              have H1 : (some false) = some r := by rw [if_neg (show ¬ (false = true) by decide)] at H; exact H
                              exact absurd ((Option.some.inj H1).trans htrue.out) (by decide)
                          · rw [if_neg c24] at H
                            exact absurd ((Option.some.inj H).trans htrue.out) (by decide)
                        · rw [if_neg c23] at H
                          exact absurd H (by simp)
                      · rw [if_neg c22] at H
                        exact absurd H (by simp)
                    · replace c20 := Bool.eq_false_iff.mpr c20
                      subst c20
                      have H1 : ((runs_At_string.f kj17 t551 (l0.length : Int)).bind fun bt562 => ((runs_Unfold_string.f kj17 l1).bind fun bt564 => (if bt562.2 = true then (some false) else (if bt564.2 = 0 then ((runs_Fold_string.f kj17 bt564.1).bind fun t568 => ((runs_Unfold_string.f kj17 t568).bind fun bt571 => (if bt571.2 = 0 then (if (t568.length : Int) ≤ (l1.length : Int) then ((colonnadelaw10_same_string.f kj17 bt571.1 bt564.1).bind fun t575 => (some t575)) else (some false)) else (some false)))) else (some ((bt564.1.length : Int) == 0)))))) = some r := by rw [if_neg (show ¬ (false = true) by decide)] at H; exact H
                      clear H
                      have H := H1
                      clear H1
                      replace H := Option.bind_eq_some_iff.mp H
                      obtain ⟨⟨t562, t563⟩, A290, H⟩ := H
                      replace H : ((runs_Unfold_string.f kj17 l1).bind fun bt564 => (if t563 = true then (some false) else (if bt564.2 = 0 then ((runs_Fold_string.f kj17 bt564.1).bind fun t568 => ((runs_Unfold_string.f kj17 t568).bind fun bt571 => (if bt571.2 = 0 then (if (t568.length : Int) ≤ (l1.length : Int) then ((colonnadelaw10_same_string.f kj17 bt571.1 bt564.1).bind fun t575 => (some t575)) else (some false)) else (some false)))) else (some ((bt564.1.length : Int) == 0))))) = some r := H
                      have A29 := Aside0.mk A290
                      clear A290
                      replace H := Option.bind_eq_some_iff.mp H
                      obtain ⟨⟨t564, t565⟩, A300, H⟩ := H
                      replace H : (if t563 = true then (some false) else (if t565 = 0 then ((runs_Fold_string.f kj17 t564).bind fun t568 => ((runs_Unfold_string.f kj17 t568).bind fun bt571 => (if bt571.2 = 0 then (if (t568.length : Int) ≤ (l1.length : Int) then ((colonnadelaw10_same_string.f kj17 bt571.1 t564).bind fun t575 => (some t575)) else (some false)) else (some false)))) else (some ((t564.length : Int) == 0)))) = some r := H
                      have A30 := Aside0.mk A300
                      clear A300
                      by_cases c31 : t563 = true
                      · subst c31
                        have H1 : (some false) = some r := by rw [if_pos rfl] at H; exact H
                        exact absurd ((Option.some.inj H1).trans htrue.out) (by decide)
                      · replace c31 := Bool.eq_false_iff.mpr c31
                        subst c31
                        have H1 : (if t565 = 0 then ((runs_Fold_string.f kj17 t564).bind fun t568 => ((runs_Unfold_string.f kj17 t568).bind fun bt571 => (if bt571.2 = 0 then (if (t568.length : Int) ≤ (l1.length : Int) then ((colonnadelaw10_same_string.f kj17 bt571.1 t564).bind fun t575 => (some t575)) else (some false)) else (some false)))) else (some ((t564.length : Int) == 0))) = some r := by rw [if_neg (show ¬ (false = true) by decide)] at H; exact H
                        clear H
                        have H := H1
                        clear H1
                        by_cases c34 : t565 = 0
                        · rw [if_pos c34] at H
                          have c34b0 : (t565 == 0) = true := beq_iff_eq.mpr c34
                          have c34b1 : (t565 != 0) = false := bne_eq_false_iff_eq.mpr c34
                          clear c34
                          replace H := Option.bind_eq_some_iff.mp H
                          obtain ⟨t568, A350, H⟩ := H
                          replace H : ((runs_Unfold_string.f kj17 t568).bind fun bt571 => (if bt571.2 = 0 then (if (t568.length : Int) ≤ (l1.length : Int) then ((colonnadelaw10_same_string.f kj17 bt571.1 t564).bind fun t575 => (some t575)) else (some false)) else (some false))) = some r := H
                          have A35 := Aside0.mk A350
                          clear A350
                          replace H := Option.bind_eq_some_iff.mp H
                          obtain ⟨⟨t571, t572⟩, A360, H⟩ := H
                          replace H : (if t572 = 0 then (if (t568.length : Int) ≤ (l1.length : Int) then ((colonnadelaw10_same_string.f kj17 t571 t564).bind fun t575 => (some t575)) else (some false)) else (some false)) = some r := H
                          have A36 := Aside0.mk A360
                          clear A360
                          by_cases c37 : t572 = 0
                          · rw [if_pos c37] at H
                            have c37b0 : (t572 == 0) = true := beq_iff_eq.mpr c37
                            have c37b1 : (t572 != 0) = false := bne_eq_false_iff_eq.mpr c37
                            clear c37
                            by_cases c38 : (t568.length : Int) ≤ (l1.length : Int)
                            · rw [if_pos c38] at H
                              have c38b0 : decide ((t568.length : Int) ≤ (l1.length : Int)) = true := decide_eq_true c38
                              have c38b1 : decide (t568.length ≤ l1.length) = true := decide_eq_true (Int.ofNat_le.mp c38)
                              clear c38
                              replace H := Option.bind_eq_some_iff.mp H
                              obtain ⟨t575, A390, H⟩ := H
                              replace H : (some t575) = some r := H
                              have A39 := Aside0.mk A390
                              clear A390
                              obtain rfl := Option.some.inj H
                              go_wp2_with (first | ((with_reducible refine gate_callee (f := 33) rfl ?_); refine goesL_ (some 68) rfl rfl Try.func33 (by kernel_rfl) rfl #[.slice Ao12 t551.length co12, .int .i64 (l0.length : Int)] rfl (by (try simp only [List.map_toArray, List.map_cons, List.map_nil]); first | done | rfl | (simp only [List.length_drop, List.length_take]; rfl)) ?_; (with_reducible refine (runs_At_string.calls kj17 _ _ t551 (l0.length : Int) t562 false _ ?side1 ?side2 A29.out).mono ?_); (case side1 => repeat (first | exact (Kd.R_reads' HO_5.out).2.2 | (with_reducible refine Kd.C_alloc ?_ _) | (with_reducible refine Kd.C_drewN ?_ _) | (with_reducible refine Kd.C_drew ?_))); (case side2 => exact (Kd.R_reads' HO_5.out).2.1); rintro e w40 ⟨rfl, hb⟩; refine ⟨_, rfl, ?_⟩; have n0_ := Aside0.mk (Kd.R_below (by (with_reducible repeat (first | apply Kd.R_alloc | apply Kd.R_drewN | apply Kd.R_drew)); exact HO_5.out) hb); have n1_ := Aside0.mk (below_step (by repeat (first | (with_reducible first | exact HB.out | apply below_alloc | apply pw_below_drewN | apply below_drew1) | exact HB.out)) hb); clear HO_5; clear HB; have HO_5 := n0_; have HB := n1_; clear n0_ n1_; (try clear hb); (try clear hb2); (try clear hk); (try clear hi)) | ((with_reducible refine gate_callee (f := 31) rfl ?_); refine goesL_ (some 73) rfl rfl Try.func31 (by kernel_rfl) rfl #[.slice A1 l1.length c1] rfl (by (try simp only [List.map_toArray, List.map_cons, List.map_nil]); first | done | rfl | (simp only [List.length_drop, List.length_take]; rfl)) ?_; (with_reducible refine (runs_Unfold_string.calls kj17 _ _ l1 t564 t565 _ ?side1 ?side2 A30.out).mono ?_); (case side1 => repeat (first | exact (Kd.C_below HR1.out HB.out) | (with_reducible refine Kd.C_alloc ?_ _) | (with_reducible refine Kd.C_drewN ?_ _) | (with_reducible refine Kd.C_drew ?_))); (case side2 => exact HC1.out); rintro e w41 ⟨v566, rfl, ho0, hb⟩; refine ⟨_, rfl, ?_⟩; have n0_ := Aside0.mk (Kd.R_below (by (with_reducible repeat (first | apply Kd.R_alloc | apply Kd.R_drewN | apply Kd.R_drew)); exact HO_5.out) hb); have n1_ := Aside0.mk (Kd.R_lower ho0 (below_size (by repeat (first | (with_reducible first | exact HB.out | apply below_alloc | apply pw_below_drewN | apply below_drew1) | exact HB.out)))); have n2_ := Aside0.mk (below_step (by repeat (first | (with_reducible first | exact HB.out | apply below_alloc | apply pw_below_drewN | apply below_drew1) | exact HB.out)) hb); clear HO_5; clear HB; have HO_5 := n0_; have HO567 := n1_; have HB := n2_; clear n0_ n1_ n2_; (try clear hb); (try clear hb2); (try clear hk); (try clear hi); (try clear ho0); obtain ⟨Ao42, co42, eo42⟩ := Kd.R_slice HO567.out; subst eo42) | ((with_reducible refine gate_callee (f := 20) rfl ?_); refine goesL_ (some 83) rfl rfl Try.func20 (by kernel_rfl) rfl #[.slice Ao42 t564.length co42] rfl (by (try simp only [List.map_toArray, List.map_cons, List.map_nil]); first | done | rfl | (simp only [List.length_drop, List.length_take]; rfl)) ?_; (with_reducible refine (runs_Fold_string.calls kj17 _ _ t564 t568 _ ?side1 ?side2 A35.out).mono ?_); (case side1 => repeat (first | exact (Kd.R_reads' HO567.out).2.2 | (with_reducible refine Kd.C_alloc ?_ _) | (with_reducible refine Kd.C_drewN ?_ _) | (with_reducible refine Kd.C_drew ?_))); (case side2 => exact (Kd.R_reads' HO567.out).2.1); rintro e w43 ⟨v569, rfl, ho0, hb⟩; refine ⟨_, rfl, ?_⟩; have n0_ := Aside0.mk (Kd.R_elder' (by (with_reducible repeat (first | apply Kd.R_alloc | apply Kd.R_drewN | apply Kd.R_drew)); exact HO_5.out) (Kd.R_base ho0) hb); have n1_ := Aside0.mk (Kd.R_below (by (with_reducible repeat (first | apply Kd.R_alloc | apply Kd.R_drewN | apply Kd.R_drew)); exact HO567.out) hb); have n2_ := Aside0.mk (Kd.R_lower (Kd.R_new' ho0 (Kd.R_lt (by (with_reducible repeat (first | apply Kd.R_alloc | apply Kd.R_drewN | apply Kd.R_drew)); exact HO_5.out))) (below_size (by repeat (first | (with_reducible first | exact HB.out | apply below_alloc | apply pw_below_drewN | apply below_drew1) | exact HB.out)))); have n3_ := Aside0.mk (below_step (by repeat (first | (with_reducible first | exact HB.out | apply below_alloc | apply pw_below_drewN | apply below_drew1) | exact HB.out)) hb); clear HO_5; clear HO567; clear HB; have HO_5 := n0_; have HO567 := n1_; have HO570 := n2_; have HB := n3_; clear n0_ n1_ n2_ n3_; (try clear hb); (try clear hb2); (try clear hk); (try clear hi); (try clear ho0); obtain ⟨Ao44, co44, eo44⟩ := Kd.R_slice HO570.out; subst eo44) | ((with_reducible refine gate_callee (f := 31) rfl ?_); refine goesL_ (some 86) rfl rfl Try.func31 (by kernel_rfl) rfl #[.slice Ao44 t568.length co44] rfl (by (try simp only [List.map_toArray, List.map_cons, List.map_nil]); first | done | rfl | (simp only [List.length_drop, List.length_take]; rfl)) ?_; (with_reducible refine (runs_Unfold_string.calls kj17 _ _ t568 t571 t572 _ ?side1 ?side2 A36.out).mono ?_); (case side1 => repeat (first | exact (Kd.R_reads' HO570.out).2.2 | (with_reducible refine Kd.C_alloc ?_ _) | (with_reducible refine Kd.C_drewN ?_ _) | (with_reducible refine Kd.C_drew ?_))); (case side2 => exact (Kd.R_reads' HO570.out).2.1); rintro e w45 ⟨v573, rfl, ho0, hb⟩; refine ⟨_, rfl, ?_⟩; have n0_ := Aside0.mk (Kd.R_below (by (with_reducible repeat (first | apply Kd.R_alloc | apply Kd.R_drewN | apply Kd.R_drew)); exact HO_5.out) hb); have n1_ := Aside0.mk (Kd.R_elder' (by (with_reducible repeat (first | apply Kd.R_alloc | apply Kd.R_drewN | apply Kd.R_drew)); exact HO567.out) (Kd.R_base ho0) hb); have n2_ := Aside0.mk (Kd.R_below (by (with_reducible repeat (first | apply Kd.R_alloc | apply Kd.R_drewN | apply Kd.R_drew)); exact HO570.out) hb); have n3_ := Aside0.mk (Kd.R_lower (Kd.R_new' ho0 (Kd.R_lt (by (with_reducible repeat (first | apply Kd.R_alloc | apply Kd.R_drewN | apply Kd.R_drew)); exact HO567.out))) (below_size (by repeat (first | (with_reducible first | exact HB.out | apply below_alloc | apply pw_below_drewN | apply below_drew1) | exact HB.out)))); have n4_ := Aside0.mk (below_step (by repeat (first | (with_reducible first | exact HB.out | apply below_alloc | apply pw_below_drewN | apply below_drew1) | exact HB.out)) hb); clear HO_5; clear HO567; clear HO570; clear HB; have HO_5 := n0_; have HO567 := n1_; have HO570 := n2_; have HO574 := n3_; have HB := n4_; clear n0_ n1_ n2_ n3_ n4_; (try clear hb); (try clear hb2); (try clear hk); (try clear hi); (try clear ho0); obtain ⟨Ao46, co46, eo46⟩ := Kd.R_slice HO574.out; subst eo46) | (go_at_call 32; (with_reducible refine (colonnadelaw10_same_string.calls kj17 _ _ t571 _ _ t564 t575 _ ?side1 ?side2 ?side3 ?side4 A39.out).mono ?_); (case side1 => repeat (first | exact (Kd.R_reads' HO574.out).2.2 | (with_reducible refine Kd.C_alloc ?_ _) | (with_reducible refine Kd.C_drewN ?_ _) | (with_reducible refine Kd.C_drew ?_))); (case side2 => exact (Kd.R_reads' HO574.out).2.1); (case side3 => repeat (first | exact (Kd.R_reads' HO567.out).2.2 | (with_reducible refine Kd.C_alloc ?_ _) | (with_reducible refine Kd.C_drewN ?_ _) | (with_reducible refine Kd.C_drew ?_))); (case side4 => exact (Kd.R_reads' HO567.out).2.1); rintro e w' ⟨rfl, ⟨nd, rfl⟩⟩))
                              go_ret
                              exact ⟨by first | rfl | (simp [errW_none, errW_some] <;> rfl) | (simp [*, errW_none, errW_some] <;> rfl), by repeat (first | (with_reducible first | exact HB.out | apply below_alloc | apply pw_below_drewN | apply below_drew1) | exact HB.out)⟩
                            · rw [if_neg c38] at H
                              exact absurd ((Option.some.inj H).trans htrue.out) (by decide)
                          · rw [if_neg c37] at H
                            exact absurd ((Option.some.inj H).trans htrue.out) (by decide)
                        · rw [if_neg c34] at H
                          have c34b0 : (t565 == 0) = false := beq_eq_false_iff_ne.mpr c34
                          have c34b1 : (t565 != 0) = true := bne_iff_ne.mpr c34
                          obtain rfl := Option.some.inj H
                          go_wp2_with (first | ((with_reducible refine gate_callee (f := 33) rfl ?_); refine goesL_ (some 68) rfl rfl Try.func33 (by kernel_rfl) rfl #[.slice Ao12 t551.length co12, .int .i64 (l0.length : Int)] rfl (by (try simp only [List.map_toArray, List.map_cons, List.map_nil]); first | done | rfl | (simp only [List.length_drop, List.length_take]; rfl)) ?_; (with_reducible refine (runs_At_string.calls kj17 _ _ t551 (l0.length : Int) t562 false _ ?side1 ?side2 A29.out).mono ?_); (case side1 => repeat (first | exact (Kd.R_reads' HO_5.out).2.2 | (with_reducible refine Kd.C_alloc ?_ _) | (with_reducible refine Kd.C_drewN ?_ _) | (with_reducible refine Kd.C_drew ?_))); (case side2 => exact (Kd.R_reads' HO_5.out).2.1); rintro e w59 ⟨rfl, hb⟩; refine ⟨_, rfl, ?_⟩; have n0_ := Aside0.mk (Kd.R_below (by (with_reducible repeat (first | apply Kd.R_alloc | apply Kd.R_drewN | apply Kd.R_drew)); exact HO_5.out) hb); have n1_ := Aside0.mk (below_step (by repeat (first | (with_reducible first | exact HB.out | apply below_alloc | apply pw_below_drewN | apply below_drew1) | exact HB.out)) hb); clear HO_5; clear HB; have HO_5 := n0_; have HB := n1_; clear n0_ n1_; (try clear hb); (try clear hb2); (try clear hk); (try clear hi)) | ((with_reducible refine gate_callee (f := 31) rfl ?_); refine goesL_ (some 73) rfl rfl Try.func31 (by kernel_rfl) rfl #[.slice A1 l1.length c1] rfl (by (try simp only [List.map_toArray, List.map_cons, List.map_nil]); first | done | rfl | (simp only [List.length_drop, List.length_take]; rfl)) ?_; (with_reducible refine (runs_Unfold_string.calls kj17 _ _ l1 t564 t565 _ ?side1 ?side2 A30.out).mono ?_); (case side1 => repeat (first | exact (Kd.C_below HR1.out HB.out) | (with_reducible refine Kd.C_alloc ?_ _) | (with_reducible refine Kd.C_drewN ?_ _) | (with_reducible refine Kd.C_drew ?_))); (case side2 => exact HC1.out); rintro e w60 ⟨v566, rfl, ho0, hb⟩; refine ⟨_, rfl, ?_⟩; have n0_ := Aside0.mk (Kd.R_below (by (with_reducible repeat (first | apply Kd.R_alloc | apply Kd.R_drewN | apply Kd.R_drew)); exact HO_5.out) hb); have n1_ := Aside0.mk (Kd.R_lower ho0 (below_size (by repeat (first | (with_reducible first | exact HB.out | apply below_alloc | apply pw_below_drewN | apply below_drew1) | exact HB.out)))); have n2_ := Aside0.mk (below_step (by repeat (first | (with_reducible first | exact HB.out | apply below_alloc | apply pw_below_drewN | apply below_drew1) | exact HB.out)) hb); clear HO_5; clear HB; have HO_5 := n0_; have HO567 := n1_; have HB := n2_; clear n0_ n1_ n2_; (try clear hb); (try clear hb2); (try clear hk); (try clear hi); (try clear ho0); obtain ⟨Ao61, co61, eo61⟩ := Kd.R_slice HO567.out; subst eo61))
                          go_ret
                          exact ⟨by first | rfl | (simp [errW_none, errW_some] <;> rfl) | (simp [*, errW_none, errW_some] <;> rfl), by repeat (first | (with_reducible first | exact HB.out | apply below_alloc | apply pw_below_drewN | apply below_drew1) | exact HB.out)⟩
  · replace c4 := Bool.eq_false_iff.mpr c4
    subst c4
    have H1 : (some false) = some r := by rw [if_neg (show ¬ (false = true) by decide)] at H; exact H
    exact absurd ((Option.some.inj H1).trans htrue.out) (by decide)
end Go.Proofs.Ythlpkdmandcngaa.Pa
