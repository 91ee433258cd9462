/- The texts of AtomTests, merged: part 25. -/
import Derived.Test.YtkedejphebfneaaQAtomTests5
-- Written by xprint.py, a program of this session, over the kit's print. Not trusted: Lean checks it.
namespace Go.Proofs.Ytkedejphebfneaa.Pa
open Go.RowKit Go.Proofs.YtkedejphebfneaaW.PrintWords Go.Proofs.YtkedejphebfneaaW.PrintLast Go.Proofs.YtkedejphebfneaaW.PrintMore
attribute [local go_sem] max2_int min2_int max_two min_two max_three min_three max_four min_four   -- for this text's walks alone
attribute [local go_sem] run_store_float cmp_feq cmp_fne cmp_flt cmp_fle cmp_fgt cmp_fge un_fneg equalIn_feq run_fop run_fint run_freal cmp_sgt ext_bits ext_frombits ext_cmpb
set_option linter.unusedVariables false
set_option linter.unusedSimpArgs false

/-! ### colonnaderef18_sign: function 78 -/
def colonnaderef18_sign.f (a0 : Bool) (a1 : Bool) : Option (Int) := if a0 = true then (some (-1)) else (if a1 = true then (some 1) else (some 0))
set_option maxHeartbeats 8000000 in
set_option maxRecDepth 100000 in
theorem colonnaderef18_sign.calls (a0 : Bool) (a1 : Bool) (r : Int) (w : World) (h : colonnaderef18_sign.f a0 a1 = some r) :
    Calls Try.prog 78 #[.bool a0, .bool a1] w fun e w' => e = .returned (.int .i64 r) ∧ Drawn0 w w' := by
  have H : (if a0 = true then (some (-1)) else (if a1 = true then (some 1) else (some 0))) = some r := h
  clear h
  by_cases c3 : a0 = true
  · subst c3
    have H1 : (some (-1)) = some r := by rw [if_pos rfl] at H; exact H
    clear H
    have H := H1
    clear H1
    obtain rfl := Option.some.inj H
    go_enter Try.func78, Try.ntmps78
    go_wp2
    go_ret
    exact ⟨by first | rfl | (simp; done) | (simp [*]; done), by repeat (first | exact Drawn0.refl _ | apply Drawn0.step)⟩
  · replace c3 := Bool.eq_false_iff.mpr c3
    subst c3
    have H1 : (if a1 = true then (some 1) else (some 0)) = some r := by rw [if_neg (show ¬ (false = true) by decide)] at H; exact H
    clear H
    have H := H1
    clear H1
    by_cases c4 : a1 = true
    · subst c4
      have H1 : (some 1) = some r := by rw [if_pos rfl] at H; exact H
      clear H
      have H := H1
      clear H1
      obtain rfl := Option.some.inj H
      go_enter Try.func78, Try.ntmps78
      go_wp2
      go_ret
      exact ⟨by first | rfl | (simp; done) | (simp [*]; done), by repeat (first | exact Drawn0.refl _ | apply Drawn0.step)⟩
    · replace c4 := Bool.eq_false_iff.mpr c4
      subst c4
      have H1 : (some 0) = some r := by rw [if_neg (show ¬ (false = true) by decide)] at H; exact H
      clear H
      have H := H1
      clear H1
      obtain rfl := Option.some.inj H
      go_enter Try.func78, Try.ntmps78
      go_wp2
      go_ret
      exact ⟨by first | rfl | (simp; done) | (simp [*]; done), by repeat (first | exact Drawn0.refl _ | apply Drawn0.step)⟩

/-! ### colonnaderef18_mixed: function 79 -/
def colonnaderef18_mixed.f (a0 : Int) (a1 : Nat) : Option (Int) := if (fge a1 (4890909195324358656 : Nat)) = true then (some (-1)) else (if (flt a1 (14114281232179134464 : Nat)) = true then (some 1) else (if fintok a1 = true then (if a0 = (fint a1) then (if (fgt a1 (freal (fint a1))) = true then (some (-1)) else (if (flt a1 (freal (fint a1))) = true then (some 1) else (some (-1)))) else ((colonnaderef18_sign.f (decide (a0 < (fint a1))) true).bind fun t258 => (some t258))) else (none)))
set_option maxHeartbeats 8000000 in
set_option maxRecDepth 100000 in
theorem colonnaderef18_mixed.calls (a0 : Int) (a1 : Nat) (r : Int) (w : World) (h : colonnaderef18_mixed.f a0 a1 = some r) :
    Calls Try.prog 79 #[.int .i64 a0, .float .f64 a1] w fun e w' => e = .returned (.int .i64 r) ∧ Drawn0 w w' := by
  have H : (if (fge a1 (4890909195324358656 : Nat)) = true then (some (-1)) else (if (flt a1 (14114281232179134464 : Nat)) = true then (some 1) else (if fintok a1 = true then (if a0 = (fint a1) then (if (fgt a1 (freal (fint a1))) = true then (some (-1)) else (if (flt a1 (freal (fint a1))) = true then (some 1) else (some (-1)))) else ((colonnaderef18_sign.f (decide (a0 < (fint a1))) true).bind fun t258 => (some t258))) else (none)))) = some r := h
  clear h
  by_cases c3 : (fge a1 (4890909195324358656 : Nat)) = true
  · rw [if_pos c3] at H
    have c3b0 : (fge a1 (4890909195324358656 : Nat)) = true := c3
    clear c3
    obtain rfl := Option.some.inj H
    go_enter Try.func79, Try.ntmps79
    go_wp2
    go_ret
    exact ⟨by first | rfl | (simp; done) | (simp [*]; done), by repeat (first | exact Drawn0.refl _ | apply Drawn0.step)⟩
  · rw [if_neg c3] at H
    have c3b0 : (fge a1 (4890909195324358656 : Nat)) = false := by simpa using c3
    clear c3
    by_cases c4 : (flt a1 (14114281232179134464 : Nat)) = true
    · rw [if_pos c4] at H
      have c4b0 : (flt a1 (14114281232179134464 : Nat)) = true := c4
      clear c4
      obtain rfl := Option.some.inj H
      go_enter Try.func79, Try.ntmps79
      go_wp2
      go_ret
      exact ⟨by first | rfl | (simp; done) | (simp [*]; done), by repeat (first | exact Drawn0.refl _ | apply Drawn0.step)⟩
    · rw [if_neg c4] at H
      have c4b0 : (flt a1 (14114281232179134464 : Nat)) = false := by simpa using c4
      clear c4
      by_cases c5 : fintok a1 = true
      · rw [if_pos c5] at H
        have c5b0 := eq_true c5
        have c5b1 : decide (fintok a1 = true) = true := decide_eq_true c5
        clear c5
        by_cases c6 : a0 = (fint a1)
        · rw [if_pos c6] at H
          have c6b0 : (a0 == (fint a1)) = true := beq_iff_eq.mpr c6
          have c6b1 : (a0 != (fint a1)) = false := bne_eq_false_iff_eq.mpr c6
          clear c6
          by_cases c7 : (fgt a1 (freal (fint a1))) = true
          · rw [if_pos c7] at H
            have c7b0 : (fgt a1 (freal (fint a1))) = true := c7
            clear c7
            obtain rfl := Option.some.inj H
            go_enter Try.func79, Try.ntmps79
            go_wp2
            go_ret
            exact ⟨by first | rfl | (simp; done) | (simp [*]; done), by repeat (first | exact Drawn0.refl _ | apply Drawn0.step)⟩
          · rw [if_neg c7] at H
            have c7b0 : (fgt a1 (freal (fint a1))) = false := by simpa using c7
            clear c7
            by_cases c8 : (flt a1 (freal (fint a1))) = true
            · rw [if_pos c8] at H
              have c8b0 : (flt a1 (freal (fint a1))) = true := c8
              clear c8
              obtain rfl := Option.some.inj H
              go_enter Try.func79, Try.ntmps79
              go_wp2
              go_ret
              exact ⟨by first | rfl | (simp; done) | (simp [*]; done), by repeat (first | exact Drawn0.refl _ | apply Drawn0.step)⟩
            · rw [if_neg c8] at H
              have c8b0 : (flt a1 (freal (fint a1))) = false := by simpa using c8
              clear c8
              obtain rfl := Option.some.inj H
              go_enter Try.func79, Try.ntmps79
              go_wp2
              go_ret
              exact ⟨by first | rfl | (simp; done) | (simp [*]; done), by repeat (first | exact Drawn0.refl _ | apply Drawn0.step)⟩
        · rw [if_neg c6] at H
          have c6b0 : (a0 == (fint a1)) = false := beq_eq_false_iff_ne.mpr c6
          have c6b1 : (a0 != (fint a1)) = true := bne_iff_ne.mpr c6
          replace H := Option.bind_eq_some_iff.mp H
          obtain ⟨t258, A90, H⟩ := H
          replace H : (some t258) = some r := H
          have A9 := Aside0.mk A90
          clear A90
          obtain rfl := Option.some.inj H
          go_enter Try.func79, Try.ntmps79
          go_wp2_with (first | ((with_reducible refine gate_callee (f := 78) rfl ?_); refine goesL_ (some 18) rfl rfl Try.func78 (by kernel_rfl) rfl #[.bool (decide (a0 < (fint a1))), .bool true] rfl (by (try simp only [List.map_toArray, List.map_cons, List.map_nil]); first | done | rfl | (simp only [List.length_drop, List.length_take]; rfl)) ?_; (with_reducible refine (colonnaderef18_sign.calls (decide (a0 < (fint a1))) true t258 _ A9.out).mono ?_); rintro e w' ⟨rfl, ⟨nd, rfl⟩⟩; refine ⟨_, rfl, ?_⟩))
          go_ret
          exact ⟨by first | rfl | (simp; done) | (simp [*]; done), by repeat (first | exact Drawn0.refl _ | apply Drawn0.step)⟩
      · rw [if_neg c5] at H
        exact absurd H (by simp)

end Go.Proofs.Ytkedejphebfneaa.Pa
