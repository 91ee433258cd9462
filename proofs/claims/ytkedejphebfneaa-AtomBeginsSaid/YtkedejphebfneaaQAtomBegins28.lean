/- The texts of AtomBegins, merged: part 28. -/
import Derived.Test.YtkedejphebfneaaQAtomBegins5
import Derived.Test.YtkedejphebfneaaQAtomBegins9
import Derived.Test.YtkedejphebfneaaQAtomBegins19
import Derived.Test.YtkedejphebfneaaQAtomBegins20
import Derived.Test.YtkedejphebfneaaQAtomBegins27
-- Written by xprint.py, a program of this session, over the kit's print. Not trusted: Lean checks it.
namespace Go.Proofs.Ytkedejphebfneaa.Pa
open Go.RowKit Go.Proofs.YtkedejphebfneaaW.PrintWords Go.Proofs.YtkedejphebfneaaW.PrintLast Go.Proofs.YtkedejphebfneaaW.PrintMore
attribute [local go_sem] max2_int min2_int max_two min_two max_three min_three max_four min_four   -- for this text's walks alone
attribute [local go_sem] run_store_float cmp_feq cmp_fne cmp_flt cmp_fle cmp_fgt cmp_fge un_fneg equalIn_feq run_fop run_fint run_freal cmp_sgt ext_bits ext_frombits ext_cmpb
set_option linter.unusedVariables false
set_option linter.unusedSimpArgs false

/-! ### colonnadelaw18_AtomBegins: function 8 -/
mutual
def colonnadelaw18_AtomBegins.j0 : Nat → ByteArray → ByteArray → ByteArray → Bool → Option (Bool)
  | 0, _, _, _, _ => none
  | k + 1, x0, x1, x2, x23 => if x23 = true then (some true) else ((colonnadelaw18_word.f x0).bind fun bt417 => ((colonnadelaw18_word.f x1).bind fun bt422 => ((atom_Test.f k 5 (⟨#[99]⟩ : ByteArray) 0 bt417.1 bt417.2.1 bt417.2.2.1 bt417.2.2.2 ([] : List (S28)) ([] : List (S32)) bt422.1 bt422.2.1 bt422.2.2.1 bt422.2.2.2).bind fun t426 => ((colonnadelaw18_begins.f x1 x0).bind fun t427 => (if ((t426 == 1) != t427) = true then (colonnadelaw18_AtomBegins.j1 k x0 x1 x2 (t426 == 1) true) else ((colonnadelaw18_word.f x2).bind fun bt428 => ((atom_Test.f k 5 (⟨#[99]⟩ : ByteArray) 0 bt417.1 bt417.2.1 bt417.2.2.1 bt417.2.2.2 ([] : List (S28)) ([] : List (S32)) bt428.1 bt428.2.1 bt428.2.2.1 bt428.2.2.2).bind fun t432 => ((colonnadelaw18_begins.f x2 x0).bind fun t433 => (if ((t432 == 1) != t433) = true then (colonnadelaw18_AtomBegins.j1 k x0 x1 x2 (t426 == 1) true) else ((atom_Test.f k 5 (⟨#[99]⟩ : ByteArray) 0 bt417.1 bt417.2.1 bt417.2.2.1 bt417.2.2.2 ([] : List (S28)) ([] : List (S32)) 0 0 (0 : Nat) (⟨#[]⟩ : ByteArray)).bind fun t434 => (colonnadelaw18_AtomBegins.j1 k x0 x1 x2 (t426 == 1) (t434 != 2))))))))))))
def colonnadelaw18_AtomBegins.j1 : Nat → ByteArray → ByteArray → ByteArray → Bool → Bool → Option (Bool)
  | 0, _, _, _, _, _ => none
  | k + 1, x0, x1, x2, x8, x53 => if x53 = true then (some false) else (if x8 = true then ((colonnadelaw18_word.f x0).bind fun bt435 => ((colonnadelaw18_compared.f 6 bt435.1 bt435.2.1 bt435.2.2.1 bt435.2.2.2).bind fun bt439 => ((colonnadelaw18_word.f x1).bind fun bt452 => ((atom_Test.f k bt439.1 bt439.2.1 bt439.2.2.1 bt439.2.2.2.1 bt439.2.2.2.2.1 bt439.2.2.2.2.2.1 bt439.2.2.2.2.2.2.1 bt439.2.2.2.2.2.2.2.1 bt439.2.2.2.2.2.2.2.2 bt452.1 bt452.2.1 bt452.2.2.1 bt452.2.2.2).bind fun t456 => (if t456 = 1 then ((colonnadelaw18_begins.f x2 x0).bind fun t457 => (if t457 = true then (some true) else ((colonnadelaw18_word.f x0).bind fun bt458 => ((colonnadelaw18_compared.f 5 bt458.1 bt458.2.1 bt458.2.2.1 bt458.2.2.2).bind fun bt462 => ((colonnadelaw18_word.f x2).bind fun bt475 => ((atom_Test.f k bt462.1 bt462.2.1 bt462.2.2.1 bt462.2.2.2.1 bt462.2.2.2.2.1 bt462.2.2.2.2.2.1 bt462.2.2.2.2.2.2.1 bt462.2.2.2.2.2.2.2.1 bt462.2.2.2.2.2.2.2.2 bt475.1 bt475.2.1 bt475.2.2.1 bt475.2.2.2).bind fun t479 => (if t479 = 1 then ((colonnadelaw18_word.f x2).bind fun bt480 => ((colonnadelaw18_compared.f 3 bt480.1 bt480.2.1 bt480.2.2.1 bt480.2.2.2).bind fun bt484 => ((colonnadelaw18_word.f x1).bind fun bt497 => ((atom_Test.f k bt484.1 bt484.2.1 bt484.2.2.1 bt484.2.2.2.1 bt484.2.2.2.2.1 bt484.2.2.2.2.2.1 bt484.2.2.2.2.2.2.1 bt484.2.2.2.2.2.2.2.1 bt484.2.2.2.2.2.2.2.2 bt497.1 bt497.2.1 bt497.2.2.1 bt497.2.2.2).bind fun t501 => (some (t501 == 1)))))) else (some true)))))))) else (some false)))))) else (some true))
end
def colonnadelaw18_AtomBegins.f (k : Nat) (a0 : ByteArray) (a1 : ByteArray) (a2 : ByteArray) : Option (Bool) := (colonnadelaw18_known.f k).bind fun t416 => (if t416 = true then (if (a0.size : Int) > 65535 then (colonnadelaw18_AtomBegins.j0 k a0 a1 a2 true) else (if (a1.size : Int) > 65535 then (colonnadelaw18_AtomBegins.j0 k a0 a1 a2 true) else (colonnadelaw18_AtomBegins.j0 k a0 a1 a2 (decide ((a2.size : Int) > 65535))))) else (some false))
theorem colonnadelaw18_AtomBegins.mono_l : ∀ k, (∀ y0 y1 y2 y3, LeO (colonnadelaw18_AtomBegins.j0 k y0 y1 y2 y3) (colonnadelaw18_AtomBegins.j0 (k + 1) y0 y1 y2 y3)) ∧ (∀ y0 y1 y2 y3 y4, LeO (colonnadelaw18_AtomBegins.j1 k y0 y1 y2 y3 y4) (colonnadelaw18_AtomBegins.j1 (k + 1) y0 y1 y2 y3 y4))
  | 0 => ⟨fun _ _ _ _ r h => by simp [colonnadelaw18_AtomBegins.j0] at h, fun _ _ _ _ _ r h => by simp [colonnadelaw18_AtomBegins.j1] at h⟩
  | k + 1 => by
    obtain ⟨ih0, ih1⟩ := colonnadelaw18_AtomBegins.mono_l k
    refine ⟨?_, ?_⟩
    · intro y0 y1 y2 y3
      unfold colonnadelaw18_AtomBegins.j0
      repeat' first
      | (with_reducible exact ih0 _ _ _ _)
      | (with_reducible exact ih1 _ _ _ _ _)
      | (with_reducible exact atom_Test.mono _ _ _ _ _ _ _ _ _ _ _ _ _ _)
      | (with_reducible exact colonnadelaw18_known.mono _)
      | (with_reducible exact LeO.refl _)
      | (with_reducible exact LeO.none _)
      | (with_reducible refine LeO.ite ?_ ?_)
      | (with_reducible refine LeO.bind ?_ (fun _ => ?_))
      | exact ih0 _ _ _ _
      | exact ih1 _ _ _ _ _
      | exact atom_Test.mono _ _ _ _ _ _ _ _ _ _ _ _ _ _
      | exact colonnadelaw18_known.mono _
      | exact LeO.none _
      | refine LeO.ite ?_ ?_
      | refine LeO.bind ?_ (fun _ => ?_)
    · intro y0 y1 y2 y3 y4
      unfold colonnadelaw18_AtomBegins.j1
      repeat' first
      | (with_reducible exact ih0 _ _ _ _)
      | (with_reducible exact ih1 _ _ _ _ _)
      | (with_reducible exact atom_Test.mono _ _ _ _ _ _ _ _ _ _ _ _ _ _)
      | (with_reducible exact colonnadelaw18_known.mono _)
      | (with_reducible exact LeO.refl _)
      | (with_reducible exact LeO.none _)
      | (with_reducible refine LeO.ite ?_ ?_)
      | (with_reducible refine LeO.bind ?_ (fun _ => ?_))
      | exact ih0 _ _ _ _
      | exact ih1 _ _ _ _ _
      | exact atom_Test.mono _ _ _ _ _ _ _ _ _ _ _ _ _ _
      | exact colonnadelaw18_known.mono _
      | exact LeO.none _
      | refine LeO.ite ?_ ?_
      | refine LeO.bind ?_ (fun _ => ?_)
theorem colonnadelaw18_AtomBegins.mono : ∀ a0 a1 a2 k, LeO (colonnadelaw18_AtomBegins.f k a0 a1 a2) (colonnadelaw18_AtomBegins.f (k + 1) a0 a1 a2) := by
  intro a0 a1 a2 k
  obtain ⟨ih0, ih1⟩ := colonnadelaw18_AtomBegins.mono_l k
  unfold colonnadelaw18_AtomBegins.f
  repeat' first
      | (with_reducible exact ih0 _ _ _ _)
      | (with_reducible exact ih1 _ _ _ _ _)
      | (with_reducible exact atom_Test.mono _ _ _ _ _ _ _ _ _ _ _ _ _ _)
      | (with_reducible exact colonnadelaw18_known.mono _)
      | (with_reducible exact LeO.refl _)
      | (with_reducible exact LeO.none _)
      | (with_reducible refine LeO.ite ?_ ?_)
      | (with_reducible refine LeO.bind ?_ (fun _ => ?_))
      | exact ih0 _ _ _ _
      | exact ih1 _ _ _ _ _
      | exact atom_Test.mono _ _ _ _ _ _ _ _ _ _ _ _ _ _
      | exact colonnadelaw18_known.mono _
      | exact LeO.none _
      | refine LeO.ite ?_ ?_
      | refine LeO.bind ?_ (fun _ => ?_)
def colonnadelaw18_AtomBegins.T7 : Bool × List (List Nat × List Nat) := (true, [([], []), ([], []), ([], []), ([1, 2], [1, 2]), ([0, 3], [0, 3]), ([4, 3], [4]), ([5], [5]), ([5], [5]), ([7, 5, 5], [5, 7]), ([6, 8, 8, 5], [5, 6, 8]), ([9, 5], [5, 9]), ([5], [5]), ([5], [5]), ([11, 12, 9, 5], [5, 11, 12]), ([10, 13, 5], [5, 10, 13]), ([5, 14], [5, 14]), ([15, 13], [15]), ([16], [16]), ([16], [16]), ([17, 18, 16, 16], [16, 17, 18]), ([19, 16], [16, 19]), ([16, 20], [16, 20])])
def colonnadelaw18_AtomBegins.B7 : List Nat := [0, 0, 0, 6, 15, 31, 63, 63, 191, 511, 1023, 63, 63, 7167, 16383, 32767, 65535, 131071, 131071, 524287, 1048575, 2097151]
theorem colonnadelaw18_AtomBegins.tab7 : rtab .any (opsOf Try.f8 7) = colonnadelaw18_AtomBegins.T7 := by kernel_rfl
theorem colonnadelaw18_AtomBegins.bits7 : waitsOk colonnadelaw18_AtomBegins.T7.2 colonnadelaw18_AtomBegins.B7 = true := by kernel_rfl
theorem colonnadelaw18_AtomBegins.j1_dead {k : Nat} {y0 : ByteArray} {y1 : ByteArray} {y2 : ByteArray} {y3 : Bool} {r : Bool} (h : colonnadelaw18_AtomBegins.j1 k y0 y1 y2 y3 true = some r) : false = r := by
  cases k with
  | zero => rw [colonnadelaw18_AtomBegins.j1] at h; cases h
  | succ k => rw [colonnadelaw18_AtomBegins.j1, if_pos rfl] at h; exact Option.some.inj h
set_option maxHeartbeats 8000000 in
set_option maxRecDepth 100000 in
theorem colonnadelaw18_AtomBegins.calls (k : Nat) (a0 : ByteArray) (a1 : ByteArray) (a2 : ByteArray) (r : Bool) (w : World) (h : colonnadelaw18_AtomBegins.f k a0 a1 a2 = some r) (htrue : Aside0 (r = true)) :
    Calls Try.prog 8 #[.string a0, .string a1, .string a2] w fun e w' => e = .returned (.bool r) ∧ Below w.heap.size w w' := by
  have hu32 := Try.underlying32
  have hu28 := Try.underlying28
  have HB := Aside0.mk (Below.refl w.heap.size w)
  have H : ((colonnadelaw18_known.f k).bind fun t416 => (if t416 = true then (if (a0.size : Int) > 65535 then (colonnadelaw18_AtomBegins.j0 k a0 a1 a2 true) else (if (a1.size : Int) > 65535 then (colonnadelaw18_AtomBegins.j0 k a0 a1 a2 true) else (colonnadelaw18_AtomBegins.j0 k a0 a1 a2 (decide ((a2.size : Int) > 65535))))) else (some false))) = some r := h
  clear h
  replace H := Option.bind_eq_some_iff.mp H
  obtain ⟨t416, A40, H⟩ := H
  replace H : (if t416 = true then (if (a0.size : Int) > 65535 then (colonnadelaw18_AtomBegins.j0 k a0 a1 a2 true) else (if (a1.size : Int) > 65535 then (colonnadelaw18_AtomBegins.j0 k a0 a1 a2 true) else (colonnadelaw18_AtomBegins.j0 k a0 a1 a2 (decide ((a2.size : Int) > 65535))))) else (some false)) = some r := H
  have A4 := Aside0.mk A40
  clear A40
  by_cases c5 : t416 = true
  · subst c5
    have H1 : (if (a0.size : Int) > 65535 then (colonnadelaw18_AtomBegins.j0 k a0 a1 a2 true) else (if (a1.size : Int) > 65535 then (colonnadelaw18_AtomBegins.j0 k a0 a1 a2 true) else (colonnadelaw18_AtomBegins.j0 k a0 a1 a2 (decide ((a2.size : Int) > 65535))))) = some r := by rw [if_pos rfl] at H; exact H
    clear H
    have H := H1
    clear H1
    have HC6 := Aside0.mk H
    clear H
    go_enter Try.func8, Try.ntmps8
    go_upto_region 3 with (first | ((with_reducible refine gate_callee (f := 15) rfl ?_); refine goesL_ (some 9) rfl rfl Try.func15 (by kernel_rfl) rfl #[] rfl (by (try simp only [List.map_toArray, List.map_cons, List.map_nil]); first | done | rfl | (simp only [List.length_drop, List.length_take]; rfl)) ?_; (with_reducible refine (colonnadelaw18_known.calls k  true _ A4.out).mono ?_); rintro e w7 ⟨rfl, hb⟩; refine ⟨_, rfl, ?_⟩; have n0_ := Aside0.mk (below_step (by repeat (first | (with_reducible first | exact HB.out | apply below_alloc | apply pw_below_drewN | apply below_drew1) | exact HB.out)) hb); clear HB; have HB := n0_; clear n0_; (try clear hb); (try clear hb2); (try clear hk); (try clear hi)))
    (try simp only [Act.put, List.setIfInBounds_toArray, List.set_cons_zero, List.set_cons_succ])
    go_cut [23] (fun v23 wc => ∃ (kq : Nat) (x23_5 : Bool), v23 = .bool x23_5 ∧ Aside0 (colonnadelaw18_AtomBegins.j0 kq a0 a1 a2 x23_5 = some r) ∧ Aside0 (kq ≤ k) ∧ Aside0 (Below w.heap.size w wc))
    case first =>
      have H := HC6.out
      clear HC6
      by_cases c8 : (a0.size : Int) > 65535
      · rw [if_pos c8] at H
        have c8b0 : decide (65535 < (a0.size : Int)) = true := decide_eq_true c8
        have c8b1 : decide (65535 < a0.size) = true := decide_eq_true (by omega)
        clear c8
        (first | rw [c8b0] | (simp only [i64_w, i32_w]; rw [c8b0]) | skip)
        have H' := Aside0.mk H
        clear H
        go_wp2
        go_meet
        case rel => exact ⟨_, (true), (by first | rfl | (simp; done) | (simp [*]; done)), H', ⟨by first | omega | exact Nat.le_refl _⟩, ⟨by repeat (first | (with_reducible first | exact HB.out | apply below_alloc | apply pw_below_drewN | apply below_drew1) | exact HB.out)⟩⟩
      · rw [if_neg c8] at H
        have c8b0 : decide (65535 < (a0.size : Int)) = false := decide_eq_false c8
        have c8b1 : decide (65535 < a0.size) = false := decide_eq_false (by omega)
        clear c8
        (first | rw [c8b0] | (simp only [i64_w, i32_w]; rw [c8b0]) | skip)
        by_cases c9 : (a1.size : Int) > 65535
        · rw [if_pos c9] at H
          have c9b0 : decide (65535 < (a1.size : Int)) = true := decide_eq_true c9
          have c9b1 : decide (65535 < a1.size) = true := decide_eq_true (by omega)
          clear c9
          have H' := Aside0.mk H
          clear H
          go_wp2
          go_meet
          case rel => exact ⟨_, (true), (by first | rfl | (simp; done) | (simp [*]; done)), H', ⟨by first | omega | exact Nat.le_refl _⟩, ⟨by repeat (first | (with_reducible first | exact HB.out | apply below_alloc | apply pw_below_drewN | apply below_drew1) | exact HB.out)⟩⟩
        · rw [if_neg c9] at H
          have c9b0 : decide (65535 < (a1.size : Int)) = false := decide_eq_false c9
          have c9b1 : decide (65535 < a1.size) = false := decide_eq_false (by omega)
          clear c9
          have H' := Aside0.mk H
          clear H
          go_wp2
          go_meet
          case rel => exact ⟨_, (decide ((a2.size : Int) > 65535)), (by first | rfl | (simp; done) | (simp [*]; done)), H', ⟨by first | omega | exact Nat.le_refl _⟩, ⟨by repeat (first | (with_reducible first | exact HB.out | apply below_alloc | apply pw_below_drewN | apply below_drew1) | exact HB.out)⟩⟩
    case rest =>
      clear HC6
      try clear c1
      try clear p2
      try clear c5
      try clear c8
      try clear c8b0
      try clear c8b1
      try clear c9
      try clear c9b0
      try clear c9b1
      obtain ⟨kq, x23_5, rfl, HA, HJ5, HB⟩ := hcut
      cases kq with
      | zero => exact absurd HA.out (by simp [colonnadelaw18_AtomBegins.j0])
      | succ kj5 =>
        have H := HA.out
        clear HA
        simp only [colonnadelaw18_AtomBegins.j0] at H
        by_cases c10 : x23_5 = true
        · subst c10
          have H1 : (some true) = some r := by rw [if_pos rfl] at H; exact H
          clear H
          have H := H1
          clear H1
          obtain rfl := Option.some.inj H
          go_wp2
          go_ret
          exact ⟨by first | rfl | (simp [errW_none, errW_some] <;> rfl) | (simp [*, errW_none, errW_some] <;> rfl), by repeat (first | (with_reducible first | exact HB.out | apply below_alloc | apply pw_below_drewN | apply below_drew1) | exact HB.out)⟩
        · replace c10 := Bool.eq_false_iff.mpr c10
          subst c10
          have H1 : ((colonnadelaw18_word.f a0).bind fun bt417 => ((colonnadelaw18_word.f a1).bind fun bt422 => ((atom_Test.f kj5 5 (⟨#[99]⟩ : ByteArray) 0 bt417.1 bt417.2.1 bt417.2.2.1 bt417.2.2.2 ([] : List (S28)) ([] : List (S32)) bt422.1 bt422.2.1 bt422.2.2.1 bt422.2.2.2).bind fun t426 => ((colonnadelaw18_begins.f a1 a0).bind fun t427 => (if ((t426 == 1) != t427) = true then (colonnadelaw18_AtomBegins.j1 kj5 a0 a1 a2 (t426 == 1) true) else ((colonnadelaw18_word.f a2).bind fun bt428 => ((atom_Test.f kj5 5 (⟨#[99]⟩ : ByteArray) 0 bt417.1 bt417.2.1 bt417.2.2.1 bt417.2.2.2 ([] : List (S28)) ([] : List (S32)) bt428.1 bt428.2.1 bt428.2.2.1 bt428.2.2.2).bind fun t432 => ((colonnadelaw18_begins.f a2 a0).bind fun t433 => (if ((t432 == 1) != t433) = true then (colonnadelaw18_AtomBegins.j1 kj5 a0 a1 a2 (t426 == 1) true) else ((atom_Test.f kj5 5 (⟨#[99]⟩ : ByteArray) 0 bt417.1 bt417.2.1 bt417.2.2.1 bt417.2.2.2 ([] : List (S28)) ([] : List (S32)) 0 0 (0 : Nat) (⟨#[]⟩ : ByteArray)).bind fun t434 => (colonnadelaw18_AtomBegins.j1 kj5 a0 a1 a2 (t426 == 1) (t434 != 2)))))))))))) = some r := by rw [if_neg (show ¬ (false = true) by decide)] at H; exact H
          clear H
          have H := H1
          clear H1
          replace H := Option.bind_eq_some_iff.mp H
          obtain ⟨⟨t417, t418, t419, t420⟩, A110, H⟩ := H
          replace H : ((colonnadelaw18_word.f a1).bind fun bt422 => ((atom_Test.f kj5 5 (⟨#[99]⟩ : ByteArray) 0 t417 t418 t419 t420 ([] : List (S28)) ([] : List (S32)) bt422.1 bt422.2.1 bt422.2.2.1 bt422.2.2.2).bind fun t426 => ((colonnadelaw18_begins.f a1 a0).bind fun t427 => (if ((t426 == 1) != t427) = true then (colonnadelaw18_AtomBegins.j1 kj5 a0 a1 a2 (t426 == 1) true) else ((colonnadelaw18_word.f a2).bind fun bt428 => ((atom_Test.f kj5 5 (⟨#[99]⟩ : ByteArray) 0 t417 t418 t419 t420 ([] : List (S28)) ([] : List (S32)) bt428.1 bt428.2.1 bt428.2.2.1 bt428.2.2.2).bind fun t432 => ((colonnadelaw18_begins.f a2 a0).bind fun t433 => (if ((t432 == 1) != t433) = true then (colonnadelaw18_AtomBegins.j1 kj5 a0 a1 a2 (t426 == 1) true) else ((atom_Test.f kj5 5 (⟨#[99]⟩ : ByteArray) 0 t417 t418 t419 t420 ([] : List (S28)) ([] : List (S32)) 0 0 (0 : Nat) (⟨#[]⟩ : ByteArray)).bind fun t434 => (colonnadelaw18_AtomBegins.j1 kj5 a0 a1 a2 (t426 == 1) (t434 != 2))))))))))) = some r := H
          have A11 := Aside0.mk A110
          clear A110
          replace H := Option.bind_eq_some_iff.mp H
          obtain ⟨⟨t422, t423, t424, t425⟩, A120, H⟩ := H
          replace H : ((atom_Test.f kj5 5 (⟨#[99]⟩ : ByteArray) 0 t417 t418 t419 t420 ([] : List (S28)) ([] : List (S32)) t422 t423 t424 t425).bind fun t426 => ((colonnadelaw18_begins.f a1 a0).bind fun t427 => (if ((t426 == 1) != t427) = true then (colonnadelaw18_AtomBegins.j1 kj5 a0 a1 a2 (t426 == 1) true) else ((colonnadelaw18_word.f a2).bind fun bt428 => ((atom_Test.f kj5 5 (⟨#[99]⟩ : ByteArray) 0 t417 t418 t419 t420 ([] : List (S28)) ([] : List (S32)) bt428.1 bt428.2.1 bt428.2.2.1 bt428.2.2.2).bind fun t432 => ((colonnadelaw18_begins.f a2 a0).bind fun t433 => (if ((t432 == 1) != t433) = true then (colonnadelaw18_AtomBegins.j1 kj5 a0 a1 a2 (t426 == 1) true) else ((atom_Test.f kj5 5 (⟨#[99]⟩ : ByteArray) 0 t417 t418 t419 t420 ([] : List (S28)) ([] : List (S32)) 0 0 (0 : Nat) (⟨#[]⟩ : ByteArray)).bind fun t434 => (colonnadelaw18_AtomBegins.j1 kj5 a0 a1 a2 (t426 == 1) (t434 != 2)))))))))) = some r := H
          have A12 := Aside0.mk A120
          clear A120
          replace H := Option.bind_eq_some_iff.mp H
          obtain ⟨t426, A130, H⟩ := H
          replace H : ((colonnadelaw18_begins.f a1 a0).bind fun t427 => (if ((t426 == 1) != t427) = true then (colonnadelaw18_AtomBegins.j1 kj5 a0 a1 a2 (t426 == 1) true) else ((colonnadelaw18_word.f a2).bind fun bt428 => ((atom_Test.f kj5 5 (⟨#[99]⟩ : ByteArray) 0 t417 t418 t419 t420 ([] : List (S28)) ([] : List (S32)) bt428.1 bt428.2.1 bt428.2.2.1 bt428.2.2.2).bind fun t432 => ((colonnadelaw18_begins.f a2 a0).bind fun t433 => (if ((t432 == 1) != t433) = true then (colonnadelaw18_AtomBegins.j1 kj5 a0 a1 a2 (t426 == 1) true) else ((atom_Test.f kj5 5 (⟨#[99]⟩ : ByteArray) 0 t417 t418 t419 t420 ([] : List (S28)) ([] : List (S32)) 0 0 (0 : Nat) (⟨#[]⟩ : ByteArray)).bind fun t434 => (colonnadelaw18_AtomBegins.j1 kj5 a0 a1 a2 (t426 == 1) (t434 != 2))))))))) = some r := H
          have A13 := Aside0.mk A130
          clear A130
          have HC14 := Aside0.mk H
          clear H
          try go_wp2_with (first | ((with_reducible refine gate_callee (f := 14) rfl ?_); refine goesL_ (some 25) rfl rfl Try.func14 (by kernel_rfl) rfl #[.string a0] rfl (by (try simp only [List.map_toArray, List.map_cons, List.map_nil]); first | done | rfl | (simp only [List.length_drop, List.length_take]; rfl)) ?_; (with_reducible refine (colonnadelaw18_word.calls a0 t417 t418 t419 t420 _ A11.out).mono ?_); rintro e w15 ⟨rfl, hb⟩; refine ⟨_, rfl, ?_⟩; have n0_ := Aside0.mk (below_step (by repeat (first | (with_reducible first | exact HB.out | apply below_alloc | apply pw_below_drewN | apply below_drew1) | exact HB.out)) hb); clear HB; have HB := n0_; clear n0_; (try clear hb); (try clear hb2); (try clear hk); (try clear hi)) | ((with_reducible refine gate_dst (N := 7) rfl ?_); (try (refine gate_guard (by rfl) ?_; dsimp only)); refine box_event ?hg (N := 7) ?hd (cs := #[.int .i64 0, .string (⟨#[]⟩ : ByteArray), .int .i64 0, .int .i64 0, .int .i64 0, .float .f64 (0 : Nat), .string (⟨#[]⟩ : ByteArray), .slice none 0 0, .slice none 0 0]) (t := 32) ?hr ?_; (case hd => rfl); (case hg => rfl); (case hr => first | (go_simp; done) | (go_simp; rfl)); intro gb421 hg w16 hbox hb; have n0_ := Aside0.mk (below_step (by repeat (first | (with_reducible first | exact HB.out | apply below_alloc | apply pw_below_drewN | apply below_drew1) | exact HB.out)) hb); have n1_ := Aside0.mk (hbox); have n2_ := Aside0.mk ((by rw [hg]; exact (below_size (by repeat (first | (with_reducible first | exact HB.out | apply below_alloc | apply pw_below_drewN | apply below_drew1) | exact HB.out))) : w.heap.size ≤ gb421)); have n3_ := Aside0.mk ((by rw [hg]; exact (below_size (by repeat (first | (with_reducible first | exact HB.out | apply below_alloc | apply pw_below_drewN | apply below_drew1) | exact HB.out))) : w.heap.size ≤ gb421)); clear HB; have HB := n0_; have BK421 := n1_; have GW421 := n2_; have GE421 := n3_; clear n0_ n1_ n2_ n3_; clear hb hbox hg; obtain ⟨hcz17_0, hcz17_1, hcz17_2, hcz17_3, hcz17_4, hcz17_5, hcz17_6, hcz17_7, hcz17_8⟩ := cells_9 BK421.out; obtain ⟨hfz17_0, hfz17_1, hfz17_2, hfz17_3, hfz17_4, hfz17_5, hfz17_6, hfz17_7, hfz17_8⟩ := froz_9 BK421.out))
          have n0_ : Aside0 ((((((((((w16.setCell ⟨gb421, 0, none⟩ (.int .i64 5)).setCell ⟨gb421, 1, none⟩ (.string (⟨#[99]⟩ : ByteArray))).setCell ⟨gb421, 2, none⟩ (.int .i64 0)).setCell ⟨gb421, 3, none⟩ (.int .i64 t417)).setCell ⟨gb421, 4, none⟩ (.int .i64 t418)).setCell ⟨gb421, 5, none⟩ (.float .f64 t419)).setCell ⟨gb421, 6, none⟩ (.string t420)).setCell ⟨gb421, 7, none⟩ (.slice none 0 0)).setCell ⟨gb421, 8, none⟩ (.slice none 0 0)).heap[gb421]? = some (.cells #[.int .i64 5, .string (⟨#[99]⟩ : ByteArray), .int .i64 0, .int .i64 t417, .int .i64 t418, .float .f64 t419, .string t420, .slice none 0 0, .slice none 0 0] 32 (0, 0))) := ⟨by (with_reducible repeat (first | refine blk_drewN ?_ _ | refine blk_drew ?_ | refine blk_alloc ?_ _)); refine blk_put (cs := #[.int .i64 5, .string (⟨#[99]⟩ : ByteArray), .int .i64 0, .int .i64 t417, .int .i64 t418, .float .f64 t419, .string t420, .slice none 0 0, .slice none 0 0]) ?_ 8 _ rfl; (with_reducible repeat (first | refine blk_drewN ?_ _ | refine blk_drew ?_ | refine blk_alloc ?_ _)); refine blk_put (cs := #[.int .i64 5, .string (⟨#[99]⟩ : ByteArray), .int .i64 0, .int .i64 t417, .int .i64 t418, .float .f64 t419, .string t420, .slice none 0 0, .slice none 0 0]) ?_ 7 _ rfl; (with_reducible repeat (first | refine blk_drewN ?_ _ | refine blk_drew ?_ | refine blk_alloc ?_ _)); refine blk_put (cs := #[.int .i64 5, .string (⟨#[99]⟩ : ByteArray), .int .i64 0, .int .i64 t417, .int .i64 t418, .float .f64 t419, .string (⟨#[]⟩ : ByteArray), .slice none 0 0, .slice none 0 0]) ?_ 6 _ rfl; (with_reducible repeat (first | refine blk_drewN ?_ _ | refine blk_drew ?_ | refine blk_alloc ?_ _)); refine blk_put (cs := #[.int .i64 5, .string (⟨#[99]⟩ : ByteArray), .int .i64 0, .int .i64 t417, .int .i64 t418, .float .f64 (0 : Nat), .string (⟨#[]⟩ : ByteArray), .slice none 0 0, .slice none 0 0]) ?_ 5 _ rfl; (with_reducible repeat (first | refine blk_drewN ?_ _ | refine blk_drew ?_ | refine blk_alloc ?_ _)); refine blk_put (cs := #[.int .i64 5, .string (⟨#[99]⟩ : ByteArray), .int .i64 0, .int .i64 t417, .int .i64 0, .float .f64 (0 : Nat), .string (⟨#[]⟩ : ByteArray), .slice none 0 0, .slice none 0 0]) ?_ 4 _ rfl; (with_reducible repeat (first | refine blk_drewN ?_ _ | refine blk_drew ?_ | refine blk_alloc ?_ _)); refine blk_put (cs := #[.int .i64 5, .string (⟨#[99]⟩ : ByteArray), .int .i64 0, .int .i64 0, .int .i64 0, .float .f64 (0 : Nat), .string (⟨#[]⟩ : ByteArray), .slice none 0 0, .slice none 0 0]) ?_ 3 _ rfl; (with_reducible repeat (first | refine blk_drewN ?_ _ | refine blk_drew ?_ | refine blk_alloc ?_ _)); refine blk_put (cs := #[.int .i64 5, .string (⟨#[99]⟩ : ByteArray), .int .i64 0, .int .i64 0, .int .i64 0, .float .f64 (0 : Nat), .string (⟨#[]⟩ : ByteArray), .slice none 0 0, .slice none 0 0]) ?_ 2 _ rfl; (with_reducible repeat (first | refine blk_drewN ?_ _ | refine blk_drew ?_ | refine blk_alloc ?_ _)); refine blk_put (cs := #[.int .i64 5, .string (⟨#[]⟩ : ByteArray), .int .i64 0, .int .i64 0, .int .i64 0, .float .f64 (0 : Nat), .string (⟨#[]⟩ : ByteArray), .slice none 0 0, .slice none 0 0]) ?_ 1 _ rfl; (with_reducible repeat (first | refine blk_drewN ?_ _ | refine blk_drew ?_ | refine blk_alloc ?_ _)); refine blk_put (cs := #[.int .i64 0, .string (⟨#[]⟩ : ByteArray), .int .i64 0, .int .i64 0, .int .i64 0, .float .f64 (0 : Nat), .string (⟨#[]⟩ : ByteArray), .slice none 0 0, .slice none 0 0]) ?_ 0 _ rfl; (with_reducible repeat (first | refine blk_drewN ?_ _ | refine blk_drew ?_ | refine blk_alloc ?_ _)); exact BK421.out⟩
          have n1_ : Aside0 (Below w.heap.size w (((((((((w16.setCell ⟨gb421, 0, none⟩ (.int .i64 5)).setCell ⟨gb421, 1, none⟩ (.string (⟨#[99]⟩ : ByteArray))).setCell ⟨gb421, 2, none⟩ (.int .i64 0)).setCell ⟨gb421, 3, none⟩ (.int .i64 t417)).setCell ⟨gb421, 4, none⟩ (.int .i64 t418)).setCell ⟨gb421, 5, none⟩ (.float .f64 t419)).setCell ⟨gb421, 6, none⟩ (.string t420)).setCell ⟨gb421, 7, none⟩ (.slice none 0 0)).setCell ⟨gb421, 8, none⟩ (.slice none 0 0))) := ⟨by repeat (first | (with_reducible first | exact HB.out | apply below_alloc | apply pw_below_drewN | apply below_drew1 | refine below_set ?_ GE421.out) | exact HB.out)⟩
          (try clear BK421)
          (try clear HB)
          generalize (((((((((w16.setCell ⟨gb421, 0, none⟩ (.int .i64 5)).setCell ⟨gb421, 1, none⟩ (.string (⟨#[99]⟩ : ByteArray))).setCell ⟨gb421, 2, none⟩ (.int .i64 0)).setCell ⟨gb421, 3, none⟩ (.int .i64 t417)).setCell ⟨gb421, 4, none⟩ (.int .i64 t418)).setCell ⟨gb421, 5, none⟩ (.float .f64 t419)).setCell ⟨gb421, 6, none⟩ (.string t420)).setCell ⟨gb421, 7, none⟩ (.slice none 0 0)).setCell ⟨gb421, 8, none⟩ (.slice none 0 0)) = w18 at n0_ n1_ ⊢
          have BK421 := n0_
          have HB := n1_
          clear n0_ n1_
          have n0_ := Aside0.mk (blk_drew BK421.out)
          have n1_ := Aside0.mk (below_drew1 HB.out)
          clear BK421
          clear HB
          have BK421 := n0_
          have HB := n1_
          clear n0_ n1_
          refine start_ (n := 6) (S := fun w' => w'.cell? ⟨gb421, 0, none⟩ = some (.int .i64 5) ∧ w'.cell? ⟨gb421, 1, none⟩ = some (.string (⟨#[99]⟩ : ByteArray)) ∧ w'.cell? ⟨gb421, 2, none⟩ = some (.int .i64 0) ∧ w'.cell? ⟨gb421, 3, none⟩ = some (.int .i64 t417) ∧ w'.cell? ⟨gb421, 4, none⟩ = some (.int .i64 t418) ∧ w'.cell? ⟨gb421, 5, none⟩ = some (.float .f64 t419) ∧ w'.cell? ⟨gb421, 6, none⟩ = some (.string t420) ∧ w'.cell? ⟨gb421, 7, none⟩ = some (.slice none 0 0) ∧ w'.cell? ⟨gb421, 8, none⟩ = some (.slice none 0 0)) (ds := []) #[false, false, false, false, false, false] (by kernel_rfl) rfl rfl ⟨(blk_cell BK421.out 0).trans rfl, (blk_cell BK421.out 1).trans rfl, (blk_cell BK421.out 2).trans rfl, (blk_cell BK421.out 3).trans rfl, (blk_cell BK421.out 4).trans rfl, (blk_cell BK421.out 5).trans rfl, (blk_cell BK421.out 6).trans rfl, (blk_cell BK421.out 7).trans rfl, (blk_cell BK421.out 8).trans rfl⟩ (fun hHeld => ?_)
          generalize w18.drew = w19 at BK421 HB hHeld ⊢
          refine pureP #[false, true, false, false, false, false] (by kernel_rfl) (i := 1) (N := some 28) ?_
          refine takeP #[true, true, false, false, false, false] (by kernel_rfl) hHeld (i := 0) (N := some 27) ?_
          refine one_ (i := 2) (N := some 29) #[true, true, true, false, false, false] rfl rfl (by kernel_rfl) (by decide) (fun K hK => ?_)
          refine goes_ Try.func14 (by kernel_rfl) rfl #[.string a1] (by rfl) rfl rfl (by (try simp only [List.map_toArray, List.map_cons, List.map_nil]); first | done | rfl | (simp only [List.length_drop, List.length_take]; rfl)) ?_
          with_reducible refine (colonnadelaw18_word.calls a1 t422 t423 t424 t425 _ A12.out).mono ?_
          rintro e w20 ⟨rfl, hb⟩
          refine ⟨_, rfl, ?_⟩
          have n0_ := blkS BK421 hb
          have n1_ := Aside0.mk (below_step (by repeat (first | (with_reducible first | exact HB.out | apply below_alloc | apply pw_below_drewN | apply below_drew1 | refine below_set ?_ GE421.out) | exact HB.out)) hb)
          clear BK421
          clear HB
          have BK421 := n0_
          have HB := n1_
          clear n0_ n1_
          (try clear hb)
          (try clear hb2)
          (try clear hk)
          (try clear hi)
          refine hK.out _ _ ⟨(blk_cell BK421.out 0).trans rfl, (blk_cell BK421.out 1).trans rfl, (blk_cell BK421.out 2).trans rfl, (blk_cell BK421.out 3).trans rfl, (blk_cell BK421.out 4).trans rfl, (blk_cell BK421.out 5).trans rfl, (blk_cell BK421.out 6).trans rfl, (blk_cell BK421.out 7).trans rfl, (blk_cell BK421.out 8).trans rfl⟩ (fun hHeld => ?_)
          clear hK K
          refine norm_ (a' := ?_) ?_ ?_
          rotate_left
          · show Act.put _ (some 29) _ = _
            simp only [Act.put, List.setIfInBounds_toArray, List.set_cons_zero, List.set_cons_succ, i64_w, i32_w]
            rfl
          refine one_ (i := 3) (N := some 30) #[true, true, true, true, false, false] rfl rfl (by kernel_rfl) (by decide) (fun K hK => ?_)
          refine goes_ Try.func20 (by kernel_rfl) rfl #[.agg #[.int .i64 5, .string (⟨#[99]⟩ : ByteArray), .int .i64 0, .int .i64 t417, .int .i64 t418, .float .f64 t419, .string t420, .slice none 0 0, .slice none 0 0], .agg #[.int .i64 t422, .int .i64 t423, .float .f64 t424, .string t425]] (by rfl) rfl rfl (by (try simp only [List.map_toArray, List.map_cons, List.map_nil]); first | done | rfl | (simp only [List.length_drop, List.length_take]; rfl)) ?_
          refine (atom_Test.calls kj5 5 (⟨#[99]⟩ : ByteArray) 0 t417 t418 t419 t420 _ _ ([] : List (S28)) _ _ ([] : List (S32)) t422 t423 t424 t425 t426 _ ?side1 ?side2 ?side3 ?side4 A13.out).mono ?_
          (case side1 => exact Kd.C_nil _ _)
          (case side2 => exact Nat.le_refl _)
          (case side3 => exact Kd.C_nil _ _)
          (case side4 => exact Nat.le_refl _)
          rintro e w21 ⟨rfl, hb⟩
          refine ⟨_, rfl, ?_⟩
          have n0_ := blkS BK421 hb
          have n1_ := Aside0.mk (below_step (by repeat (first | (with_reducible first | exact HB.out | apply below_alloc | apply pw_below_drewN | apply below_drew1 | refine below_set ?_ GE421.out) | exact HB.out)) hb)
          clear BK421
          clear HB
          have BK421 := n0_
          have HB := n1_
          clear n0_ n1_
          (try clear hb)
          (try clear hb2)
          (try clear hk)
          (try clear hi)
          refine hK.out _ _ ⟨(blk_cell BK421.out 0).trans rfl, (blk_cell BK421.out 1).trans rfl, (blk_cell BK421.out 2).trans rfl, (blk_cell BK421.out 3).trans rfl, (blk_cell BK421.out 4).trans rfl, (blk_cell BK421.out 5).trans rfl, (blk_cell BK421.out 6).trans rfl, (blk_cell BK421.out 7).trans rfl, (blk_cell BK421.out 8).trans rfl⟩ (fun hHeld => ?_)
          clear hK K
          refine norm_ (a' := ?_) ?_ ?_
          rotate_left
          · show Act.put _ (some 30) _ = _
            simp only [Act.put, List.setIfInBounds_toArray, List.set_cons_zero, List.set_cons_succ, i64_w, i32_w]
            rfl
          refine pureP #[true, true, true, true, true, false] (by kernel_rfl) (i := 4) (N := some 31) ?_
          refine pureP #[true, true, true, true, true, true] (by kernel_rfl) (i := 5) (N := some 8) ?_
          refine done_ (by kernel_rfl) ?_
          go_upto_region 7 with (fail)
          go_cut [53] (fun v53 wc => ∃ (kq : Nat) (x53_13 : Bool), v53 = .bool x53_13 ∧ Aside0 (colonnadelaw18_AtomBegins.j1 kq a0 a1 a2 (t426 == 1) x53_13 = some r) ∧ Aside0 (kq ≤ kj5) ∧ Aside0 (wc.heap[gb421]? = some (.cells #[.int .i64 5, .string (⟨#[99]⟩ : ByteArray), .int .i64 0, .int .i64 t417, .int .i64 t418, .float .f64 t419, .string t420, (.slice none 0 0), (.slice none 0 0)] 32 (0, 0))) ∧ Aside0 (Below w.heap.size w wc))
          case first =>
            have H := HC14.out
            clear HC14
            replace H := Option.bind_eq_some_iff.mp H
            obtain ⟨t427, A220, H⟩ := H
            replace H : (if ((t426 == 1) != t427) = true then (colonnadelaw18_AtomBegins.j1 kj5 a0 a1 a2 (t426 == 1) true) else ((colonnadelaw18_word.f a2).bind fun bt428 => ((atom_Test.f kj5 5 (⟨#[99]⟩ : ByteArray) 0 t417 t418 t419 t420 ([] : List (S28)) ([] : List (S32)) bt428.1 bt428.2.1 bt428.2.2.1 bt428.2.2.2).bind fun t432 => ((colonnadelaw18_begins.f a2 a0).bind fun t433 => (if ((t432 == 1) != t433) = true then (colonnadelaw18_AtomBegins.j1 kj5 a0 a1 a2 (t426 == 1) true) else ((atom_Test.f kj5 5 (⟨#[99]⟩ : ByteArray) 0 t417 t418 t419 t420 ([] : List (S28)) ([] : List (S32)) 0 0 (0 : Nat) (⟨#[]⟩ : ByteArray)).bind fun t434 => (colonnadelaw18_AtomBegins.j1 kj5 a0 a1 a2 (t426 == 1) (t434 != 2)))))))) = some r := H
            have A22 := Aside0.mk A220
            clear A220
            by_cases c23 : ((t426 == 1) != t427) = true
            · rw [if_pos c23] at H
              exact absurd ((colonnadelaw18_AtomBegins.j1_dead H).trans htrue.out) (by decide)
            · rw [if_neg c23] at H
              have c23b0 : ((t426 == 1) != t427) = false := by simpa using c23
              (try (have c23b1 : decide ((t426 == 1) = t427) = true := by simpa using c23))
              (try (have c23b2 : ((t426 == 1) == t427) = true := by simpa using c23))
              clear c23
              (first | rw [c23b0] | (simp only [i64_w, i32_w]; rw [c23b0]) | skip)
              replace H := Option.bind_eq_some_iff.mp H
              obtain ⟨⟨t428, t429, t430, t431⟩, A250, H⟩ := H
              replace H : ((atom_Test.f kj5 5 (⟨#[99]⟩ : ByteArray) 0 t417 t418 t419 t420 ([] : List (S28)) ([] : List (S32)) t428 t429 t430 t431).bind fun t432 => ((colonnadelaw18_begins.f a2 a0).bind fun t433 => (if ((t432 == 1) != t433) = true then (colonnadelaw18_AtomBegins.j1 kj5 a0 a1 a2 (t426 == 1) true) else ((atom_Test.f kj5 5 (⟨#[99]⟩ : ByteArray) 0 t417 t418 t419 t420 ([] : List (S28)) ([] : List (S32)) 0 0 (0 : Nat) (⟨#[]⟩ : ByteArray)).bind fun t434 => (colonnadelaw18_AtomBegins.j1 kj5 a0 a1 a2 (t426 == 1) (t434 != 2)))))) = some r := H
              have A25 := Aside0.mk A250
              clear A250
              replace H := Option.bind_eq_some_iff.mp H
              obtain ⟨t432, A260, H⟩ := H
              replace H : ((colonnadelaw18_begins.f a2 a0).bind fun t433 => (if ((t432 == 1) != t433) = true then (colonnadelaw18_AtomBegins.j1 kj5 a0 a1 a2 (t426 == 1) true) else ((atom_Test.f kj5 5 (⟨#[99]⟩ : ByteArray) 0 t417 t418 t419 t420 ([] : List (S28)) ([] : List (S32)) 0 0 (0 : Nat) (⟨#[]⟩ : ByteArray)).bind fun t434 => (colonnadelaw18_AtomBegins.j1 kj5 a0 a1 a2 (t426 == 1) (t434 != 2))))) = some r := H
              have A26 := Aside0.mk A260
              clear A260
              replace H := Option.bind_eq_some_iff.mp H
              obtain ⟨t433, A270, H⟩ := H
              replace H : (if ((t432 == 1) != t433) = true then (colonnadelaw18_AtomBegins.j1 kj5 a0 a1 a2 (t426 == 1) true) else ((atom_Test.f kj5 5 (⟨#[99]⟩ : ByteArray) 0 t417 t418 t419 t420 ([] : List (S28)) ([] : List (S32)) 0 0 (0 : Nat) (⟨#[]⟩ : ByteArray)).bind fun t434 => (colonnadelaw18_AtomBegins.j1 kj5 a0 a1 a2 (t426 == 1) (t434 != 2)))) = some r := H
              have A27 := Aside0.mk A270
              clear A270
              by_cases c28 : ((t432 == 1) != t433) = true
              · rw [if_pos c28] at H
                exact absurd ((colonnadelaw18_AtomBegins.j1_dead H).trans htrue.out) (by decide)
              · rw [if_neg c28] at H
                have c28b0 : ((t432 == 1) != t433) = false := by simpa using c28
                (try (have c28b1 : decide ((t432 == 1) = t433) = true := by simpa using c28))
                (try (have c28b2 : ((t432 == 1) == t433) = true := by simpa using c28))
                clear c28
                replace H := Option.bind_eq_some_iff.mp H
                obtain ⟨t434, A320, H⟩ := H
                replace H : (colonnadelaw18_AtomBegins.j1 kj5 a0 a1 a2 (t426 == 1) (t434 != 2)) = some r := H
                have A32 := Aside0.mk A320
                clear A320
                have H' := Aside0.mk H
                clear H
                try go_wp2
                have n0_ := Aside0.mk (blk_drew BK421.out)
                have n1_ := Aside0.mk (below_drew1 HB.out)
                clear BK421
                clear HB
                have BK421 := n0_
                have HB := n1_
                clear n0_ n1_
                refine start_ (n := 22) (S := fun w' => w'.cell? ⟨gb421, 0, none⟩ = some (.int .i64 5) ∧ w'.cell? ⟨gb421, 1, none⟩ = some (.string (⟨#[99]⟩ : ByteArray)) ∧ w'.cell? ⟨gb421, 2, none⟩ = some (.int .i64 0) ∧ w'.cell? ⟨gb421, 3, none⟩ = some (.int .i64 t417) ∧ w'.cell? ⟨gb421, 4, none⟩ = some (.int .i64 t418) ∧ w'.cell? ⟨gb421, 5, none⟩ = some (.float .f64 t419) ∧ w'.cell? ⟨gb421, 6, none⟩ = some (.string t420) ∧ w'.cell? ⟨gb421, 7, none⟩ = some (.slice none 0 0) ∧ w'.cell? ⟨gb421, 8, none⟩ = some (.slice none 0 0)) (ds := []) #[false, false, false, false, false, false, false, false, false, false, false, false, false, false, false, false, false, false, false, false, false, false] (by kernel_rfl) rfl rfl ⟨(blk_cell BK421.out 0).trans rfl, (blk_cell BK421.out 1).trans rfl, (blk_cell BK421.out 2).trans rfl, (blk_cell BK421.out 3).trans rfl, (blk_cell BK421.out 4).trans rfl, (blk_cell BK421.out 5).trans rfl, (blk_cell BK421.out 6).trans rfl, (blk_cell BK421.out 7).trans rfl, (blk_cell BK421.out 8).trans rfl⟩ (fun hHeld => ?_); refine with_tabW colonnadelaw18_AtomBegins.tab7 colonnadelaw18_AtomBegins.bits7 (fun HT_ HW_ => ?_)
                generalize w21.drew = w33 at BK421 HB hHeld ⊢
                refine pureP #[true, false, false, false, false, false, false, false, false, false, false, false, false, false, false, false, false, false, false, false, false, false] (any_of HT_.out (by kernel_rfl)) (i := 0) (N := some 32) ?_
                refine pureP #[true, true, false, false, false, false, false, false, false, false, false, false, false, false, false, false, false, false, false, false, false, false] (any_of HT_.out (by kernel_rfl)) (i := 1) (N := some 33) ?_
                refine pureP #[true, true, true, false, false, false, false, false, false, false, false, false, false, false, false, false, false, false, false, false, false, false] (any_of HT_.out (by kernel_rfl)) (i := 2) (N := some 34) ?_
                refine one_ (i := 3) (N := some 35) #[true, true, true, true, false, false, false, false, false, false, false, false, false, false, false, false, false, false, false, false, false, false] rfl rfl (one_of HT_.out (by kernel_rfl)) (by decide) (fun K hK => ?_)
                refine goes_ Try.func27 (by kernel_rfl) rfl #[.string a1, .string a0] (by rfl) rfl rfl (by (try simp only [List.map_toArray, List.map_cons, List.map_nil]); first | done | rfl | (simp only [List.length_drop, List.length_take]; rfl)) ?_
                with_reducible refine (colonnadelaw18_begins.calls a1 a0 t427 _ A22.out).mono ?_
                rintro e w' ⟨rfl, ⟨nd, rfl⟩⟩
                refine ⟨_, rfl, ?_⟩
                refine hK.out _ _ ⟨(blk_cell BK421.out 0).trans rfl, (blk_cell BK421.out 1).trans rfl, (blk_cell BK421.out 2).trans rfl, (blk_cell BK421.out 3).trans rfl, (blk_cell BK421.out 4).trans rfl, (blk_cell BK421.out 5).trans rfl, (blk_cell BK421.out 6).trans rfl, (blk_cell BK421.out 7).trans rfl, (blk_cell BK421.out 8).trans rfl⟩ (fun hHeld => ?_)
                clear hK K
                refine norm_ (a' := ?_) ?_ ?_
                rotate_left
                · show Act.put _ (some 35) _ = _
                  simp only [Act.put, List.setIfInBounds_toArray, List.set_cons_zero, List.set_cons_succ, i64_w, i32_w]
                  rfl
                refine pureP #[true, true, true, true, true, false, false, false, false, false, false, false, false, false, false, false, false, false, false, false, false, false] (any_of HT_.out (by kernel_rfl)) (i := 4) (N := some 36) ?_
                refine pureP #[true, true, true, true, true, true, false, false, false, false, false, false, false, false, false, false, false, false, false, false, false, false] (any_of HT_.out (by kernel_rfl)) (i := 5) (N := some 37) ?_
                refine pureP #[true, true, true, true, true, true, false, true, false, false, false, false, false, false, false, false, false, false, false, false, false, false] (any_of HT_.out (by kernel_rfl)) (i := 7) (N := some 39) ?_
                refine pureP #[true, true, true, true, true, true, false, true, false, false, false, true, false, false, false, false, false, false, false, false, false, false] (any_of HT_.out (by kernel_rfl)) (i := 11) (N := some 43) ?_
                refine pureP #[true, true, true, true, true, true, false, true, false, false, false, true, true, false, false, false, false, false, false, false, false, false] (any_of HT_.out (by kernel_rfl)) (i := 12) (N := some 44) ?_
                refine takeP #[true, true, true, true, true, true, true, true, false, false, false, true, true, false, false, false, false, false, false, false, false, false] (take_ofW HT_.out HW_.out (by kernel_rfl)) hHeld (i := 6) (N := some 38) ?_
                refine one_ (i := 8) (N := some 40) #[true, true, true, true, true, true, true, true, true, false, false, true, true, false, false, false, false, false, false, false, false, false] rfl rfl (one_of HT_.out (by kernel_rfl)) (by decide) (fun K hK => ?_)
                refine goes_ Try.func14 (by kernel_rfl) rfl #[.string a2] (by rfl) rfl rfl (by (try simp only [List.map_toArray, List.map_cons, List.map_nil]); first | done | rfl | (simp only [List.length_drop, List.length_take]; rfl)) ?_
                with_reducible refine (colonnadelaw18_word.calls a2 t428 t429 t430 t431 _ A25.out).mono ?_
                rintro e w34 ⟨rfl, hb⟩
                refine ⟨_, rfl, ?_⟩
                have n0_ := blkS BK421 hb
                have n1_ := Aside0.mk (below_step (by repeat (first | (with_reducible first | exact HB.out | apply below_alloc | apply pw_below_drewN | apply below_drew1 | refine below_set ?_ GE421.out) | exact HB.out)) hb)
                clear BK421
                clear HB
                have BK421 := n0_
                have HB := n1_
                clear n0_ n1_
                (try clear hb)
                (try clear hb2)
                (try clear hk)
                (try clear hi)
                refine hK.out _ _ ⟨(blk_cell BK421.out 0).trans rfl, (blk_cell BK421.out 1).trans rfl, (blk_cell BK421.out 2).trans rfl, (blk_cell BK421.out 3).trans rfl, (blk_cell BK421.out 4).trans rfl, (blk_cell BK421.out 5).trans rfl, (blk_cell BK421.out 6).trans rfl, (blk_cell BK421.out 7).trans rfl, (blk_cell BK421.out 8).trans rfl⟩ (fun hHeld => ?_)
                clear hK K
                refine norm_ (a' := ?_) ?_ ?_
                rotate_left
                · show Act.put _ (some 40) _ = _
                  simp only [Act.put, List.setIfInBounds_toArray, List.set_cons_zero, List.set_cons_succ, i64_w, i32_w]
                  rfl
                refine one_ (i := 9) (N := some 41) #[true, true, true, true, true, true, true, true, true, true, false, true, true, false, false, false, false, false, false, false, false, false] rfl rfl (one_of HT_.out (by kernel_rfl)) (by decide) (fun K hK => ?_)
                refine goes_ Try.func20 (by kernel_rfl) rfl #[.agg #[.int .i64 5, .string (⟨#[99]⟩ : ByteArray), .int .i64 0, .int .i64 t417, .int .i64 t418, .float .f64 t419, .string t420, .slice none 0 0, .slice none 0 0], .agg #[.int .i64 t428, .int .i64 t429, .float .f64 t430, .string t431]] (by rfl) rfl rfl (by (try simp only [List.map_toArray, List.map_cons, List.map_nil]); first | done | rfl | (simp only [List.length_drop, List.length_take]; rfl)) ?_
                refine (atom_Test.calls kj5 5 (⟨#[99]⟩ : ByteArray) 0 t417 t418 t419 t420 _ _ ([] : List (S28)) _ _ ([] : List (S32)) t428 t429 t430 t431 t432 _ ?side1 ?side2 ?side3 ?side4 A26.out).mono ?_
                (case side1 => exact Kd.C_nil _ _)
                (case side2 => exact Nat.le_refl _)
                (case side3 => exact Kd.C_nil _ _)
                (case side4 => exact Nat.le_refl _)
                rintro e w35 ⟨rfl, hb⟩
                refine ⟨_, rfl, ?_⟩
                have n0_ := blkS BK421 hb
                have n1_ := Aside0.mk (below_step (by repeat (first | (with_reducible first | exact HB.out | apply below_alloc | apply pw_below_drewN | apply below_drew1 | refine below_set ?_ GE421.out) | exact HB.out)) hb)
                clear BK421
                clear HB
                have BK421 := n0_
                have HB := n1_
                clear n0_ n1_
                (try clear hb)
                (try clear hb2)
                (try clear hk)
                (try clear hi)
                refine hK.out _ _ ⟨(blk_cell BK421.out 0).trans rfl, (blk_cell BK421.out 1).trans rfl, (blk_cell BK421.out 2).trans rfl, (blk_cell BK421.out 3).trans rfl, (blk_cell BK421.out 4).trans rfl, (blk_cell BK421.out 5).trans rfl, (blk_cell BK421.out 6).trans rfl, (blk_cell BK421.out 7).trans rfl, (blk_cell BK421.out 8).trans rfl⟩ (fun hHeld => ?_)
                clear hK K
                refine norm_ (a' := ?_) ?_ ?_
                rotate_left
                · show Act.put _ (some 41) _ = _
                  simp only [Act.put, List.setIfInBounds_toArray, List.set_cons_zero, List.set_cons_succ, i64_w, i32_w]
                  rfl
                refine pureP #[true, true, true, true, true, true, true, true, true, true, true, true, true, false, false, false, false, false, false, false, false, false] (any_of HT_.out (by kernel_rfl)) (i := 10) (N := some 42) ?_
                refine one_ (i := 13) (N := some 45) #[true, true, true, true, true, true, true, true, true, true, true, true, true, true, false, false, false, false, false, false, false, false] rfl rfl (one_of HT_.out (by kernel_rfl)) (by decide) (fun K hK => ?_)
                refine goes_ Try.func27 (by kernel_rfl) rfl #[.string a2, .string a0] (by rfl) rfl rfl (by (try simp only [List.map_toArray, List.map_cons, List.map_nil]); first | done | rfl | (simp only [List.length_drop, List.length_take]; rfl)) ?_
                with_reducible refine (colonnadelaw18_begins.calls a2 a0 t433 _ A27.out).mono ?_
                rintro e w' ⟨rfl, ⟨nd, rfl⟩⟩
                refine ⟨_, rfl, ?_⟩
                refine hK.out _ _ ⟨(blk_cell BK421.out 0).trans rfl, (blk_cell BK421.out 1).trans rfl, (blk_cell BK421.out 2).trans rfl, (blk_cell BK421.out 3).trans rfl, (blk_cell BK421.out 4).trans rfl, (blk_cell BK421.out 5).trans rfl, (blk_cell BK421.out 6).trans rfl, (blk_cell BK421.out 7).trans rfl, (blk_cell BK421.out 8).trans rfl⟩ (fun hHeld => ?_)
                clear hK K
                refine norm_ (a' := ?_) ?_ ?_
                rotate_left
                · show Act.put _ (some 45) _ = _
                  simp only [Act.put, List.setIfInBounds_toArray, List.set_cons_zero, List.set_cons_succ, i64_w, i32_w]
                  rfl
                refine pureP #[true, true, true, true, true, true, true, true, true, true, true, true, true, true, true, false, false, false, false, false, false, false] (any_of HT_.out (by kernel_rfl)) (i := 14) (N := some 46) ?_
                refine pureP #[true, true, true, true, true, true, true, true, true, true, true, true, true, true, true, true, false, false, false, false, false, false] (any_of HT_.out (by kernel_rfl)) (i := 15) (N := some 47) ?_
                refine pureP #[true, true, true, true, true, true, true, true, true, true, true, true, true, true, true, true, true, false, false, false, false, false] (any_of HT_.out (by kernel_rfl)) (i := 16) (N := some 48) ?_
                refine pureP #[true, true, true, true, true, true, true, true, true, true, true, true, true, true, true, true, true, false, true, false, false, false] (any_of HT_.out (by kernel_rfl)) (i := 18) (N := some 50) ?_
                refine takeP #[true, true, true, true, true, true, true, true, true, true, true, true, true, true, true, true, true, true, true, false, false, false] (take_ofW HT_.out HW_.out (by kernel_rfl)) hHeld (i := 17) (N := some 49) ?_
                refine one_ (i := 19) (N := some 51) #[true, true, true, true, true, true, true, true, true, true, true, true, true, true, true, true, true, true, true, true, false, false] rfl rfl (one_of HT_.out (by kernel_rfl)) (by decide) (fun K hK => ?_)
                refine goes_ Try.func20 (by kernel_rfl) rfl #[.agg #[.int .i64 5, .string (⟨#[99]⟩ : ByteArray), .int .i64 0, .int .i64 t417, .int .i64 t418, .float .f64 t419, .string t420, .slice none 0 0, .slice none 0 0], .agg #[.int .i64 0, .int .i64 0, .float .f64 (0 : Nat), .string (⟨#[]⟩ : ByteArray)]] (by rfl) rfl rfl (by (try simp only [List.map_toArray, List.map_cons, List.map_nil]); first | done | rfl | (simp only [List.length_drop, List.length_take]; rfl)) ?_
                refine (atom_Test.calls kj5 5 (⟨#[99]⟩ : ByteArray) 0 t417 t418 t419 t420 _ _ ([] : List (S28)) _ _ ([] : List (S32)) 0 0 (0 : Nat) (⟨#[]⟩ : ByteArray) t434 _ ?side1 ?side2 ?side3 ?side4 A32.out).mono ?_
                (case side1 => exact Kd.C_nil _ _)
                (case side2 => exact Nat.le_refl _)
                (case side3 => exact Kd.C_nil _ _)
                (case side4 => exact Nat.le_refl _)
                rintro e w36 ⟨rfl, hb⟩
                refine ⟨_, rfl, ?_⟩
                have n0_ := blkS BK421 hb
                have n1_ := Aside0.mk (below_step (by repeat (first | (with_reducible first | exact HB.out | apply below_alloc | apply pw_below_drewN | apply below_drew1 | refine below_set ?_ GE421.out) | exact HB.out)) hb)
                clear BK421
                clear HB
                have BK421 := n0_
                have HB := n1_
                clear n0_ n1_
                (try clear hb)
                (try clear hb2)
                (try clear hk)
                (try clear hi)
                refine hK.out _ _ ⟨(blk_cell BK421.out 0).trans rfl, (blk_cell BK421.out 1).trans rfl, (blk_cell BK421.out 2).trans rfl, (blk_cell BK421.out 3).trans rfl, (blk_cell BK421.out 4).trans rfl, (blk_cell BK421.out 5).trans rfl, (blk_cell BK421.out 6).trans rfl, (blk_cell BK421.out 7).trans rfl, (blk_cell BK421.out 8).trans rfl⟩ (fun hHeld => ?_)
                clear hK K
                refine norm_ (a' := ?_) ?_ ?_
                rotate_left
                · show Act.put _ (some 51) _ = _
                  simp only [Act.put, List.setIfInBounds_toArray, List.set_cons_zero, List.set_cons_succ, i64_w, i32_w]
                  rfl
                refine pureP #[true, true, true, true, true, true, true, true, true, true, true, true, true, true, true, true, true, true, true, true, true, false] (any_of HT_.out (by kernel_rfl)) (i := 20) (N := some 52) ?_
                refine pureP #[true, true, true, true, true, true, true, true, true, true, true, true, true, true, true, true, true, true, true, true, true, true] (any_of HT_.out (by kernel_rfl)) (i := 21) (N := some 53) ?_
                refine done_ (done_of HT_.out (by kernel_rfl)) ?_
                try go_wp2
                go_meet
                case rel => exact ⟨_, ((t434 != 2)), (by first | rfl | (simp; done) | (simp [*]; done)), H', ⟨by have := HJ5.out; first | omega | exact Nat.le_refl _⟩, ⟨by (with_reducible repeat (first | refine blk_drewN ?_ _ | refine blk_drew ?_ | refine blk_alloc ?_ _)); exact BK421.out⟩, ⟨by repeat (first | (with_reducible first | exact HB.out | apply below_alloc | apply pw_below_drewN | apply below_drew1 | refine below_set ?_ GE421.out) | exact HB.out)⟩⟩
          case rest =>
            clear HC14
            try clear c1
            try clear c2
            try clear p2
            try clear c14
            try clear c20
            try clear c23
            try clear c23b0
            try clear c23b1
            try clear c23b2
            try clear c27
            try clear c28
            try clear c28b0
            try clear c28b1
            try clear c28b2
            obtain ⟨kq, x53_13, rfl, HA, HJ13, BK421, HB⟩ := hcut
            cases kq with
            | zero => exact absurd HA.out (by simp [colonnadelaw18_AtomBegins.j1])
            | succ kj13 =>
              have H := HA.out
              clear HA
              simp only [colonnadelaw18_AtomBegins.j1] at H
              by_cases c37 : x53_13 = true
              · subst c37
                have H1 : (some false) = some r := by rw [if_pos rfl] at H; exact H
                exact absurd ((Option.some.inj H1).trans htrue.out) (by decide)
              · replace c37 := Bool.eq_false_iff.mpr c37
                subst c37
                have H1 : (if (t426 == 1) = true then ((colonnadelaw18_word.f a0).bind fun bt435 => ((colonnadelaw18_compared.f 6 bt435.1 bt435.2.1 bt435.2.2.1 bt435.2.2.2).bind fun bt439 => ((colonnadelaw18_word.f a1).bind fun bt452 => ((atom_Test.f kj13 bt439.1 bt439.2.1 bt439.2.2.1 bt439.2.2.2.1 bt439.2.2.2.2.1 bt439.2.2.2.2.2.1 bt439.2.2.2.2.2.2.1 bt439.2.2.2.2.2.2.2.1 bt439.2.2.2.2.2.2.2.2 bt452.1 bt452.2.1 bt452.2.2.1 bt452.2.2.2).bind fun t456 => (if t456 = 1 then ((colonnadelaw18_begins.f a2 a0).bind fun t457 => (if t457 = true then (some true) else ((colonnadelaw18_word.f a0).bind fun bt458 => ((colonnadelaw18_compared.f 5 bt458.1 bt458.2.1 bt458.2.2.1 bt458.2.2.2).bind fun bt462 => ((colonnadelaw18_word.f a2).bind fun bt475 => ((atom_Test.f kj13 bt462.1 bt462.2.1 bt462.2.2.1 bt462.2.2.2.1 bt462.2.2.2.2.1 bt462.2.2.2.2.2.1 bt462.2.2.2.2.2.2.1 bt462.2.2.2.2.2.2.2.1 bt462.2.2.2.2.2.2.2.2 bt475.1 bt475.2.1 bt475.2.2.1 bt475.2.2.2).bind fun t479 => (if t479 = 1 then ((colonnadelaw18_word.f a2).bind fun bt480 => ((colonnadelaw18_compared.f 3 bt480.1 bt480.2.1 bt480.2.2.1 bt480.2.2.2).bind fun bt484 => ((colonnadelaw18_word.f a1).bind fun bt497 => ((atom_Test.f kj13 bt484.1 bt484.2.1 bt484.2.2.1 bt484.2.2.2.1 bt484.2.2.2.2.1 bt484.2.2.2.2.2.1 bt484.2.2.2.2.2.2.1 bt484.2.2.2.2.2.2.2.1 bt484.2.2.2.2.2.2.2.2 bt497.1 bt497.2.1 bt497.2.2.1 bt497.2.2.2).bind fun t501 => (some (t501 == 1)))))) else (some true)))))))) else (some false)))))) else (some true)) = some r := by rw [if_neg (show ¬ (false = true) by decide)] at H; exact H
                clear H
                have H := H1
                clear H1
                by_cases c38 : (t426 == 1) = true
                · rw [if_pos c38] at H
                  have c38b0 : (t426 == 1) = true := c38
                  (try (have c38b1 : decide (t426 = 1) = true := by simpa using c38))
                  (try (have c38b2 : (t426 == 1) = true := by simpa using c38))
                  clear c38
                  replace H := Option.bind_eq_some_iff.mp H
                  obtain ⟨⟨t435, t436, t437, t438⟩, A390, H⟩ := H
                  replace H : ((colonnadelaw18_compared.f 6 t435 t436 t437 t438).bind fun bt439 => ((colonnadelaw18_word.f a1).bind fun bt452 => ((atom_Test.f kj13 bt439.1 bt439.2.1 bt439.2.2.1 bt439.2.2.2.1 bt439.2.2.2.2.1 bt439.2.2.2.2.2.1 bt439.2.2.2.2.2.2.1 bt439.2.2.2.2.2.2.2.1 bt439.2.2.2.2.2.2.2.2 bt452.1 bt452.2.1 bt452.2.2.1 bt452.2.2.2).bind fun t456 => (if t456 = 1 then ((colonnadelaw18_begins.f a2 a0).bind fun t457 => (if t457 = true then (some true) else ((colonnadelaw18_word.f a0).bind fun bt458 => ((colonnadelaw18_compared.f 5 bt458.1 bt458.2.1 bt458.2.2.1 bt458.2.2.2).bind fun bt462 => ((colonnadelaw18_word.f a2).bind fun bt475 => ((atom_Test.f kj13 bt462.1 bt462.2.1 bt462.2.2.1 bt462.2.2.2.1 bt462.2.2.2.2.1 bt462.2.2.2.2.2.1 bt462.2.2.2.2.2.2.1 bt462.2.2.2.2.2.2.2.1 bt462.2.2.2.2.2.2.2.2 bt475.1 bt475.2.1 bt475.2.2.1 bt475.2.2.2).bind fun t479 => (if t479 = 1 then ((colonnadelaw18_word.f a2).bind fun bt480 => ((colonnadelaw18_compared.f 3 bt480.1 bt480.2.1 bt480.2.2.1 bt480.2.2.2).bind fun bt484 => ((colonnadelaw18_word.f a1).bind fun bt497 => ((atom_Test.f kj13 bt484.1 bt484.2.1 bt484.2.2.1 bt484.2.2.2.1 bt484.2.2.2.2.1 bt484.2.2.2.2.2.1 bt484.2.2.2.2.2.2.1 bt484.2.2.2.2.2.2.2.1 bt484.2.2.2.2.2.2.2.2 bt497.1 bt497.2.1 bt497.2.2.1 bt497.2.2.2).bind fun t501 => (some (t501 == 1)))))) else (some true)))))))) else (some false))))) = some r := H
                  have A39 := Aside0.mk A390
                  clear A390
                  replace H := Option.bind_eq_some_iff.mp H
                  obtain ⟨⟨t439, t440, t441, t442, t443, t444, t445, t446, t449⟩, A400, H⟩ := H
                  replace H : ((colonnadelaw18_word.f a1).bind fun bt452 => ((atom_Test.f kj13 t439 t440 t441 t442 t443 t444 t445 t446 t449 bt452.1 bt452.2.1 bt452.2.2.1 bt452.2.2.2).bind fun t456 => (if t456 = 1 then ((colonnadelaw18_begins.f a2 a0).bind fun t457 => (if t457 = true then (some true) else ((colonnadelaw18_word.f a0).bind fun bt458 => ((colonnadelaw18_compared.f 5 bt458.1 bt458.2.1 bt458.2.2.1 bt458.2.2.2).bind fun bt462 => ((colonnadelaw18_word.f a2).bind fun bt475 => ((atom_Test.f kj13 bt462.1 bt462.2.1 bt462.2.2.1 bt462.2.2.2.1 bt462.2.2.2.2.1 bt462.2.2.2.2.2.1 bt462.2.2.2.2.2.2.1 bt462.2.2.2.2.2.2.2.1 bt462.2.2.2.2.2.2.2.2 bt475.1 bt475.2.1 bt475.2.2.1 bt475.2.2.2).bind fun t479 => (if t479 = 1 then ((colonnadelaw18_word.f a2).bind fun bt480 => ((colonnadelaw18_compared.f 3 bt480.1 bt480.2.1 bt480.2.2.1 bt480.2.2.2).bind fun bt484 => ((colonnadelaw18_word.f a1).bind fun bt497 => ((atom_Test.f kj13 bt484.1 bt484.2.1 bt484.2.2.1 bt484.2.2.2.1 bt484.2.2.2.2.1 bt484.2.2.2.2.2.1 bt484.2.2.2.2.2.2.1 bt484.2.2.2.2.2.2.2.1 bt484.2.2.2.2.2.2.2.2 bt497.1 bt497.2.1 bt497.2.2.1 bt497.2.2.2).bind fun t501 => (some (t501 == 1)))))) else (some true)))))))) else (some false)))) = some r := H
                  have A40 := Aside0.mk A400
                  clear A400
                  replace H := Option.bind_eq_some_iff.mp H
                  obtain ⟨⟨t452, t453, t454, t455⟩, A410, H⟩ := H
                  replace H : ((atom_Test.f kj13 t439 t440 t441 t442 t443 t444 t445 t446 t449 t452 t453 t454 t455).bind fun t456 => (if t456 = 1 then ((colonnadelaw18_begins.f a2 a0).bind fun t457 => (if t457 = true then (some true) else ((colonnadelaw18_word.f a0).bind fun bt458 => ((colonnadelaw18_compared.f 5 bt458.1 bt458.2.1 bt458.2.2.1 bt458.2.2.2).bind fun bt462 => ((colonnadelaw18_word.f a2).bind fun bt475 => ((atom_Test.f kj13 bt462.1 bt462.2.1 bt462.2.2.1 bt462.2.2.2.1 bt462.2.2.2.2.1 bt462.2.2.2.2.2.1 bt462.2.2.2.2.2.2.1 bt462.2.2.2.2.2.2.2.1 bt462.2.2.2.2.2.2.2.2 bt475.1 bt475.2.1 bt475.2.2.1 bt475.2.2.2).bind fun t479 => (if t479 = 1 then ((colonnadelaw18_word.f a2).bind fun bt480 => ((colonnadelaw18_compared.f 3 bt480.1 bt480.2.1 bt480.2.2.1 bt480.2.2.2).bind fun bt484 => ((colonnadelaw18_word.f a1).bind fun bt497 => ((atom_Test.f kj13 bt484.1 bt484.2.1 bt484.2.2.1 bt484.2.2.2.1 bt484.2.2.2.2.1 bt484.2.2.2.2.2.1 bt484.2.2.2.2.2.2.1 bt484.2.2.2.2.2.2.2.1 bt484.2.2.2.2.2.2.2.2 bt497.1 bt497.2.1 bt497.2.2.1 bt497.2.2.2).bind fun t501 => (some (t501 == 1)))))) else (some true)))))))) else (some false))) = some r := H
                  have A41 := Aside0.mk A410
                  clear A410
                  replace H := Option.bind_eq_some_iff.mp H
                  obtain ⟨t456, A420, H⟩ := H
                  replace H : (if t456 = 1 then ((colonnadelaw18_begins.f a2 a0).bind fun t457 => (if t457 = true then (some true) else ((colonnadelaw18_word.f a0).bind fun bt458 => ((colonnadelaw18_compared.f 5 bt458.1 bt458.2.1 bt458.2.2.1 bt458.2.2.2).bind fun bt462 => ((colonnadelaw18_word.f a2).bind fun bt475 => ((atom_Test.f kj13 bt462.1 bt462.2.1 bt462.2.2.1 bt462.2.2.2.1 bt462.2.2.2.2.1 bt462.2.2.2.2.2.1 bt462.2.2.2.2.2.2.1 bt462.2.2.2.2.2.2.2.1 bt462.2.2.2.2.2.2.2.2 bt475.1 bt475.2.1 bt475.2.2.1 bt475.2.2.2).bind fun t479 => (if t479 = 1 then ((colonnadelaw18_word.f a2).bind fun bt480 => ((colonnadelaw18_compared.f 3 bt480.1 bt480.2.1 bt480.2.2.1 bt480.2.2.2).bind fun bt484 => ((colonnadelaw18_word.f a1).bind fun bt497 => ((atom_Test.f kj13 bt484.1 bt484.2.1 bt484.2.2.1 bt484.2.2.2.1 bt484.2.2.2.2.1 bt484.2.2.2.2.2.1 bt484.2.2.2.2.2.2.1 bt484.2.2.2.2.2.2.2.1 bt484.2.2.2.2.2.2.2.2 bt497.1 bt497.2.1 bt497.2.2.1 bt497.2.2.2).bind fun t501 => (some (t501 == 1)))))) else (some true)))))))) else (some false)) = some r := H
                  have A42 := Aside0.mk A420
                  clear A420
                  by_cases c43 : t456 = 1
                  · rw [if_pos c43] at H
                    have c43b0 : (t456 == 1) = true := beq_iff_eq.mpr c43
                    have c43b1 : (t456 != 1) = false := bne_eq_false_iff_eq.mpr c43
                    clear c43
                    replace H := Option.bind_eq_some_iff.mp H
                    obtain ⟨t457, A440, H⟩ := H
                    replace H : (if t457 = true then (some true) else ((colonnadelaw18_word.f a0).bind fun bt458 => ((colonnadelaw18_compared.f 5 bt458.1 bt458.2.1 bt458.2.2.1 bt458.2.2.2).bind fun bt462 => ((colonnadelaw18_word.f a2).bind fun bt475 => ((atom_Test.f kj13 bt462.1 bt462.2.1 bt462.2.2.1 bt462.2.2.2.1 bt462.2.2.2.2.1 bt462.2.2.2.2.2.1 bt462.2.2.2.2.2.2.1 bt462.2.2.2.2.2.2.2.1 bt462.2.2.2.2.2.2.2.2 bt475.1 bt475.2.1 bt475.2.2.1 bt475.2.2.2).bind fun t479 => (if t479 = 1 then ((colonnadelaw18_word.f a2).bind fun bt480 => ((colonnadelaw18_compared.f 3 bt480.1 bt480.2.1 bt480.2.2.1 bt480.2.2.2).bind fun bt484 => ((colonnadelaw18_word.f a1).bind fun bt497 => ((atom_Test.f kj13 bt484.1 bt484.2.1 bt484.2.2.1 bt484.2.2.2.1 bt484.2.2.2.2.1 bt484.2.2.2.2.2.1 bt484.2.2.2.2.2.2.1 bt484.2.2.2.2.2.2.2.1 bt484.2.2.2.2.2.2.2.2 bt497.1 bt497.2.1 bt497.2.2.1 bt497.2.2.2).bind fun t501 => (some (t501 == 1)))))) else (some true))))))) = some r := H
                    have A44 := Aside0.mk A440
                    clear A440
                    by_cases c45 : t457 = true
                    · subst c45
                      have H1 : (some true) = some r := by rw [if_pos rfl] at H; exact H
                      clear H
                      have H := H1
                      clear H1
                      obtain rfl := Option.some.inj H
                      go_wp2_with (first | ((with_reducible refine gate_callee (f := 14) rfl ?_); refine goesL_ (some 57) rfl rfl Try.func14 (by kernel_rfl) rfl #[.string a0] rfl (by (try simp only [List.map_toArray, List.map_cons, List.map_nil]); first | done | rfl | (simp only [List.length_drop, List.length_take]; rfl)) ?_; (with_reducible refine (colonnadelaw18_word.calls a0 t435 t436 t437 t438 _ A39.out).mono ?_); rintro e w46 ⟨rfl, hb⟩; refine ⟨_, rfl, ?_⟩; have n0_ := blkS BK421 hb; have n1_ := Aside0.mk (below_step (by repeat (first | (with_reducible first | exact HB.out | apply below_alloc | apply pw_below_drewN | apply below_drew1 | refine below_set ?_ GE421.out) | exact HB.out)) hb); clear BK421; clear HB; have BK421 := n0_; have HB := n1_; clear n0_ n1_; (try clear hb); (try clear hb2); (try clear hk); (try clear hi)) | ((with_reducible refine gate_callee (f := 28) rfl ?_); refine goesL_ (some 58) rfl rfl Try.func28 (by kernel_rfl) rfl #[.int .i64 6, .agg #[.int .i64 t435, .int .i64 t436, .float .f64 t437, .string t438]] rfl (by (try simp only [List.map_toArray, List.map_cons, List.map_nil]); first | done | rfl | (simp only [List.length_drop, List.length_take]; rfl)) ?_; (with_reducible refine (colonnadelaw18_compared.calls 6 t435 t436 t437 t438 t439 t440 t441 t442 t443 t444 t445 t446 t449 _ A40.out).mono ?_); rintro e w47 ⟨v447, v450, rfl, ho0, ho1, hb⟩; refine ⟨_, rfl, ?_⟩; have n0_ := Aside0.mk (Kd.R_lower ho0 (below_size (by repeat (first | (with_reducible first | exact HB.out | apply below_alloc | apply pw_below_drewN | apply below_drew1 | refine below_set ?_ GE421.out) | exact HB.out)))); have n1_ := Aside0.mk (Kd.R_lower (Kd.R_newB ho1 (g := gb421) (o := .cells #[.int .i64 5, .string (⟨#[99]⟩ : ByteArray), .int .i64 0, .int .i64 t417, .int .i64 t418, .float .f64 t419, .string t420, .slice none 0 0, .slice none 0 0] 32 (0, 0)) (by (with_reducible repeat (first | refine blk_drewN ?_ _ | refine blk_drew ?_ | refine blk_alloc ?_ _)); exact BK421.out)) (below_size (by repeat (first | (with_reducible first | exact HB.out | apply below_alloc | apply pw_below_drewN | apply below_drew1 | refine below_set ?_ GE421.out) | exact HB.out)))); have n2_ := blkS BK421 hb; have n3_ := Aside0.mk (below_step (by repeat (first | (with_reducible first | exact HB.out | apply below_alloc | apply pw_below_drewN | apply below_drew1 | refine below_set ?_ GE421.out) | exact HB.out)) hb); clear BK421; clear HB; have HO448 := n0_; have HO451 := n1_; have BK421 := n2_; have HB := n3_; clear n0_ n1_ n2_ n3_; (try clear hb); (try clear hb2); (try clear hk); (try clear hi); (try clear ho0); (try clear ho1)) | ((with_reducible refine gate_callee (f := 14) rfl ?_); refine goesL_ (some 60) rfl rfl Try.func14 (by kernel_rfl) rfl #[.string a1] rfl (by (try simp only [List.map_toArray, List.map_cons, List.map_nil]); first | done | rfl | (simp only [List.length_drop, List.length_take]; rfl)) ?_; (with_reducible refine (colonnadelaw18_word.calls a1 t452 t453 t454 t455 _ A41.out).mono ?_); rintro e w48 ⟨rfl, hb⟩; refine ⟨_, rfl, ?_⟩; have n0_ := Aside0.mk (Kd.R_below (by (with_reducible repeat (first | apply Kd.R_alloc | apply Kd.R_drewN | apply Kd.R_drew)); exact HO448.out) hb); have n1_ := Aside0.mk (Kd.R_below (by (with_reducible repeat (first | apply Kd.R_alloc | apply Kd.R_drewN | apply Kd.R_drew)); exact HO451.out) hb); have n2_ := blkS BK421 hb; have n3_ := Aside0.mk (below_step (by repeat (first | (with_reducible first | exact HB.out | apply below_alloc | apply pw_below_drewN | apply below_drew1 | refine below_set ?_ GE421.out) | exact HB.out)) hb); clear HO448; clear HO451; clear BK421; clear HB; have HO448 := n0_; have HO451 := n1_; have BK421 := n2_; have HB := n3_; clear n0_ n1_ n2_ n3_; (try clear hb); (try clear hb2); (try clear hk); (try clear hi); obtain ⟨Ao49, co49, eo49⟩ := Kd.R_slice HO448.out; subst eo49; obtain ⟨Ao50, co50, eo50⟩ := Kd.R_slice HO451.out; subst eo50) | ((with_reducible refine gate_callee (f := 20) rfl ?_); refine goesL_ (some 61) rfl rfl Try.func20 (by kernel_rfl) rfl #[.agg #[.int .i64 t439, .string t440, .int .i64 t441, .int .i64 t442, .int .i64 t443, .float .f64 t444, .string t445, .slice Ao49 t446.length co49, .slice Ao50 t449.length co50], .agg #[.int .i64 t452, .int .i64 t453, .float .f64 t454, .string t455]] rfl (by (try simp only [List.map_toArray, List.map_cons, List.map_nil]); first | done | rfl | (simp only [List.length_drop, List.length_take]; rfl)) ?_; (with_reducible refine (atom_Test.calls kj13 t439 t440 t441 t442 t443 t444 t445 _ _ t446 _ _ t449 t452 t453 t454 t455 t456 _ ?side1 ?side2 ?side3 ?side4 A42.out).mono ?_); (case side1 => repeat (first | exact (Kd.R_reads' HO448.out).2.2 | (with_reducible refine Kd.C_alloc ?_ _) | (with_reducible refine Kd.C_drewN ?_ _) | (with_reducible refine Kd.C_drew ?_))); (case side2 => exact (Kd.R_reads' HO448.out).2.1); (case side3 => repeat (first | exact (Kd.R_reads' HO451.out).2.2 | (with_reducible refine Kd.C_alloc ?_ _) | (with_reducible refine Kd.C_drewN ?_ _) | (with_reducible refine Kd.C_drew ?_))); (case side4 => exact (Kd.R_reads' HO451.out).2.1); rintro e w51 ⟨rfl, hb⟩; refine ⟨_, rfl, ?_⟩; have n0_ := Aside0.mk (Kd.R_below (by (with_reducible repeat (first | apply Kd.R_alloc | apply Kd.R_drewN | apply Kd.R_drew)); exact HO448.out) hb); have n1_ := Aside0.mk (Kd.R_below (by (with_reducible repeat (first | apply Kd.R_alloc | apply Kd.R_drewN | apply Kd.R_drew)); exact HO451.out) hb); have n2_ := blkS BK421 hb; have n3_ := Aside0.mk (below_step (by repeat (first | (with_reducible first | exact HB.out | apply below_alloc | apply pw_below_drewN | apply below_drew1 | refine below_set ?_ GE421.out) | exact HB.out)) hb); clear HO448; clear HO451; clear BK421; clear HB; have HO448 := n0_; have HO451 := n1_; have BK421 := n2_; have HB := n3_; clear n0_ n1_ n2_ n3_; (try clear hb); (try clear hb2); (try clear hk); (try clear hi)) | ((with_reducible refine gate_callee (f := 27) rfl ?_); refine goesL_ (some 65) rfl rfl Try.func27 (by kernel_rfl) rfl #[.string a2, .string a0] rfl (by (try simp only [List.map_toArray, List.map_cons, List.map_nil]); first | done | rfl | (simp only [List.length_drop, List.length_take]; rfl)) ?_; (with_reducible refine (colonnadelaw18_begins.calls a2 a0 true _ A44.out).mono ?_); rintro e w' ⟨rfl, ⟨nd, rfl⟩⟩; refine ⟨_, rfl, ?_⟩))
                      go_ret
                      exact ⟨by first | rfl | (simp [errW_none, errW_some] <;> rfl) | (simp [*, errW_none, errW_some] <;> rfl), by repeat (first | (with_reducible first | exact HB.out | apply below_alloc | apply pw_below_drewN | apply below_drew1 | refine below_set ?_ GE421.out) | exact HB.out)⟩
                    · replace c45 := Bool.eq_false_iff.mpr c45
                      subst c45
                      have H1 : ((colonnadelaw18_word.f a0).bind fun bt458 => ((colonnadelaw18_compared.f 5 bt458.1 bt458.2.1 bt458.2.2.1 bt458.2.2.2).bind fun bt462 => ((colonnadelaw18_word.f a2).bind fun bt475 => ((atom_Test.f kj13 bt462.1 bt462.2.1 bt462.2.2.1 bt462.2.2.2.1 bt462.2.2.2.2.1 bt462.2.2.2.2.2.1 bt462.2.2.2.2.2.2.1 bt462.2.2.2.2.2.2.2.1 bt462.2.2.2.2.2.2.2.2 bt475.1 bt475.2.1 bt475.2.2.1 bt475.2.2.2).bind fun t479 => (if t479 = 1 then ((colonnadelaw18_word.f a2).bind fun bt480 => ((colonnadelaw18_compared.f 3 bt480.1 bt480.2.1 bt480.2.2.1 bt480.2.2.2).bind fun bt484 => ((colonnadelaw18_word.f a1).bind fun bt497 => ((atom_Test.f kj13 bt484.1 bt484.2.1 bt484.2.2.1 bt484.2.2.2.1 bt484.2.2.2.2.1 bt484.2.2.2.2.2.1 bt484.2.2.2.2.2.2.1 bt484.2.2.2.2.2.2.2.1 bt484.2.2.2.2.2.2.2.2 bt497.1 bt497.2.1 bt497.2.2.1 bt497.2.2.2).bind fun t501 => (some (t501 == 1)))))) else (some true)))))) = some r := by rw [if_neg (show ¬ (false = true) by decide)] at H; exact H
                      clear H
                      have H := H1
                      clear H1
                      replace H := Option.bind_eq_some_iff.mp H
                      obtain ⟨⟨t458, t459, t460, t461⟩, A520, H⟩ := H
                      replace H : ((colonnadelaw18_compared.f 5 t458 t459 t460 t461).bind fun bt462 => ((colonnadelaw18_word.f a2).bind fun bt475 => ((atom_Test.f kj13 bt462.1 bt462.2.1 bt462.2.2.1 bt462.2.2.2.1 bt462.2.2.2.2.1 bt462.2.2.2.2.2.1 bt462.2.2.2.2.2.2.1 bt462.2.2.2.2.2.2.2.1 bt462.2.2.2.2.2.2.2.2 bt475.1 bt475.2.1 bt475.2.2.1 bt475.2.2.2).bind fun t479 => (if t479 = 1 then ((colonnadelaw18_word.f a2).bind fun bt480 => ((colonnadelaw18_compared.f 3 bt480.1 bt480.2.1 bt480.2.2.1 bt480.2.2.2).bind fun bt484 => ((colonnadelaw18_word.f a1).bind fun bt497 => ((atom_Test.f kj13 bt484.1 bt484.2.1 bt484.2.2.1 bt484.2.2.2.1 bt484.2.2.2.2.1 bt484.2.2.2.2.2.1 bt484.2.2.2.2.2.2.1 bt484.2.2.2.2.2.2.2.1 bt484.2.2.2.2.2.2.2.2 bt497.1 bt497.2.1 bt497.2.2.1 bt497.2.2.2).bind fun t501 => (some (t501 == 1)))))) else (some true))))) = some r := H
                      have A52 := Aside0.mk A520
                      clear A520
                      replace H := Option.bind_eq_some_iff.mp H
                      obtain ⟨⟨t462, t463, t464, t465, t466, t467, t468, t469, t472⟩, A530, H⟩ := H
                      replace H : ((colonnadelaw18_word.f a2).bind fun bt475 => ((atom_Test.f kj13 t462 t463 t464 t465 t466 t467 t468 t469 t472 bt475.1 bt475.2.1 bt475.2.2.1 bt475.2.2.2).bind fun t479 => (if t479 = 1 then ((colonnadelaw18_word.f a2).bind fun bt480 => ((colonnadelaw18_compared.f 3 bt480.1 bt480.2.1 bt480.2.2.1 bt480.2.2.2).bind fun bt484 => ((colonnadelaw18_word.f a1).bind fun bt497 => ((atom_Test.f kj13 bt484.1 bt484.2.1 bt484.2.2.1 bt484.2.2.2.1 bt484.2.2.2.2.1 bt484.2.2.2.2.2.1 bt484.2.2.2.2.2.2.1 bt484.2.2.2.2.2.2.2.1 bt484.2.2.2.2.2.2.2.2 bt497.1 bt497.2.1 bt497.2.2.1 bt497.2.2.2).bind fun t501 => (some (t501 == 1)))))) else (some true)))) = some r := H
                      have A53 := Aside0.mk A530
                      clear A530
                      replace H := Option.bind_eq_some_iff.mp H
                      obtain ⟨⟨t475, t476, t477, t478⟩, A540, H⟩ := H
                      replace H : ((atom_Test.f kj13 t462 t463 t464 t465 t466 t467 t468 t469 t472 t475 t476 t477 t478).bind fun t479 => (if t479 = 1 then ((colonnadelaw18_word.f a2).bind fun bt480 => ((colonnadelaw18_compared.f 3 bt480.1 bt480.2.1 bt480.2.2.1 bt480.2.2.2).bind fun bt484 => ((colonnadelaw18_word.f a1).bind fun bt497 => ((atom_Test.f kj13 bt484.1 bt484.2.1 bt484.2.2.1 bt484.2.2.2.1 bt484.2.2.2.2.1 bt484.2.2.2.2.2.1 bt484.2.2.2.2.2.2.1 bt484.2.2.2.2.2.2.2.1 bt484.2.2.2.2.2.2.2.2 bt497.1 bt497.2.1 bt497.2.2.1 bt497.2.2.2).bind fun t501 => (some (t501 == 1)))))) else (some true))) = some r := H
                      have A54 := Aside0.mk A540
                      clear A540
                      replace H := Option.bind_eq_some_iff.mp H
                      obtain ⟨t479, A550, H⟩ := H
                      replace H : (if t479 = 1 then ((colonnadelaw18_word.f a2).bind fun bt480 => ((colonnadelaw18_compared.f 3 bt480.1 bt480.2.1 bt480.2.2.1 bt480.2.2.2).bind fun bt484 => ((colonnadelaw18_word.f a1).bind fun bt497 => ((atom_Test.f kj13 bt484.1 bt484.2.1 bt484.2.2.1 bt484.2.2.2.1 bt484.2.2.2.2.1 bt484.2.2.2.2.2.1 bt484.2.2.2.2.2.2.1 bt484.2.2.2.2.2.2.2.1 bt484.2.2.2.2.2.2.2.2 bt497.1 bt497.2.1 bt497.2.2.1 bt497.2.2.2).bind fun t501 => (some (t501 == 1)))))) else (some true)) = some r := H
                      have A55 := Aside0.mk A550
                      clear A550
                      by_cases c56 : t479 = 1
                      · rw [if_pos c56] at H
                        have c56b0 : (t479 == 1) = true := beq_iff_eq.mpr c56
                        have c56b1 : (t479 != 1) = false := bne_eq_false_iff_eq.mpr c56
                        clear c56
                        replace H := Option.bind_eq_some_iff.mp H
                        obtain ⟨⟨t480, t481, t482, t483⟩, A570, H⟩ := H
                        replace H : ((colonnadelaw18_compared.f 3 t480 t481 t482 t483).bind fun bt484 => ((colonnadelaw18_word.f a1).bind fun bt497 => ((atom_Test.f kj13 bt484.1 bt484.2.1 bt484.2.2.1 bt484.2.2.2.1 bt484.2.2.2.2.1 bt484.2.2.2.2.2.1 bt484.2.2.2.2.2.2.1 bt484.2.2.2.2.2.2.2.1 bt484.2.2.2.2.2.2.2.2 bt497.1 bt497.2.1 bt497.2.2.1 bt497.2.2.2).bind fun t501 => (some (t501 == 1))))) = some r := H
                        have A57 := Aside0.mk A570
                        clear A570
                        replace H := Option.bind_eq_some_iff.mp H
                        obtain ⟨⟨t484, t485, t486, t487, t488, t489, t490, t491, t494⟩, A580, H⟩ := H
                        replace H : ((colonnadelaw18_word.f a1).bind fun bt497 => ((atom_Test.f kj13 t484 t485 t486 t487 t488 t489 t490 t491 t494 bt497.1 bt497.2.1 bt497.2.2.1 bt497.2.2.2).bind fun t501 => (some (t501 == 1)))) = some r := H
                        have A58 := Aside0.mk A580
                        clear A580
                        replace H := Option.bind_eq_some_iff.mp H
                        obtain ⟨⟨t497, t498, t499, t500⟩, A590, H⟩ := H
                        replace H : ((atom_Test.f kj13 t484 t485 t486 t487 t488 t489 t490 t491 t494 t497 t498 t499 t500).bind fun t501 => (some (t501 == 1))) = some r := H
                        have A59 := Aside0.mk A590
                        clear A590
                        replace H := Option.bind_eq_some_iff.mp H
                        obtain ⟨t501, A600, H⟩ := H
                        replace H : (some (t501 == 1)) = some r := H
                        have A60 := Aside0.mk A600
                        clear A600
                        obtain rfl := Option.some.inj H
                        go_wp2_with (first | ((with_reducible refine gate_callee (f := 14) rfl ?_); refine goesL_ (some 57) rfl rfl Try.func14 (by kernel_rfl) rfl #[.string a0] rfl (by (try simp only [List.map_toArray, List.map_cons, List.map_nil]); first | done | rfl | (simp only [List.length_drop, List.length_take]; rfl)) ?_; (with_reducible refine (colonnadelaw18_word.calls a0 t435 t436 t437 t438 _ A39.out).mono ?_); rintro e w61 ⟨rfl, hb⟩; refine ⟨_, rfl, ?_⟩; have n0_ := blkS BK421 hb; have n1_ := Aside0.mk (below_step (by repeat (first | (with_reducible first | exact HB.out | apply below_alloc | apply pw_below_drewN | apply below_drew1 | refine below_set ?_ GE421.out) | exact HB.out)) hb); clear BK421; clear HB; have BK421 := n0_; have HB := n1_; clear n0_ n1_; (try clear hb); (try clear hb2); (try clear hk); (try clear hi)) | ((with_reducible refine gate_callee (f := 28) rfl ?_); refine goesL_ (some 58) rfl rfl Try.func28 (by kernel_rfl) rfl #[.int .i64 6, .agg #[.int .i64 t435, .int .i64 t436, .float .f64 t437, .string t438]] rfl (by (try simp only [List.map_toArray, List.map_cons, List.map_nil]); first | done | rfl | (simp only [List.length_drop, List.length_take]; rfl)) ?_; (with_reducible refine (colonnadelaw18_compared.calls 6 t435 t436 t437 t438 t439 t440 t441 t442 t443 t444 t445 t446 t449 _ A40.out).mono ?_); rintro e w62 ⟨v447, v450, rfl, ho0, ho1, hb⟩; refine ⟨_, rfl, ?_⟩; have n0_ := Aside0.mk (Kd.R_lower ho0 (below_size (by repeat (first | (with_reducible first | exact HB.out | apply below_alloc | apply pw_below_drewN | apply below_drew1 | refine below_set ?_ GE421.out) | exact HB.out)))); have n1_ := Aside0.mk (Kd.R_lower (Kd.R_newB ho1 (g := gb421) (o := .cells #[.int .i64 5, .string (⟨#[99]⟩ : ByteArray), .int .i64 0, .int .i64 t417, .int .i64 t418, .float .f64 t419, .string t420, .slice none 0 0, .slice none 0 0] 32 (0, 0)) (by (with_reducible repeat (first | refine blk_drewN ?_ _ | refine blk_drew ?_ | refine blk_alloc ?_ _)); exact BK421.out)) (below_size (by repeat (first | (with_reducible first | exact HB.out | apply below_alloc | apply pw_below_drewN | apply below_drew1 | refine below_set ?_ GE421.out) | exact HB.out)))); have n2_ := blkS BK421 hb; have n3_ := Aside0.mk (below_step (by repeat (first | (with_reducible first | exact HB.out | apply below_alloc | apply pw_below_drewN | apply below_drew1 | refine below_set ?_ GE421.out) | exact HB.out)) hb); clear BK421; clear HB; have HO448 := n0_; have HO451 := n1_; have BK421 := n2_; have HB := n3_; clear n0_ n1_ n2_ n3_; (try clear hb); (try clear hb2); (try clear hk); (try clear hi); (try clear ho0); (try clear ho1)) | ((with_reducible refine gate_callee (f := 14) rfl ?_); refine goesL_ (some 60) rfl rfl Try.func14 (by kernel_rfl) rfl #[.string a1] rfl (by (try simp only [List.map_toArray, List.map_cons, List.map_nil]); first | done | rfl | (simp only [List.length_drop, List.length_take]; rfl)) ?_; (with_reducible refine (colonnadelaw18_word.calls a1 t452 t453 t454 t455 _ A41.out).mono ?_); rintro e w63 ⟨rfl, hb⟩; refine ⟨_, rfl, ?_⟩; have n0_ := Aside0.mk (Kd.R_below (by (with_reducible repeat (first | apply Kd.R_alloc | apply Kd.R_drewN | apply Kd.R_drew)); exact HO448.out) hb); have n1_ := Aside0.mk (Kd.R_below (by (with_reducible repeat (first | apply Kd.R_alloc | apply Kd.R_drewN | apply Kd.R_drew)); exact HO451.out) hb); have n2_ := blkS BK421 hb; have n3_ := Aside0.mk (below_step (by repeat (first | (with_reducible first | exact HB.out | apply below_alloc | apply pw_below_drewN | apply below_drew1 | refine below_set ?_ GE421.out) | exact HB.out)) hb); clear HO448; clear HO451; clear BK421; clear HB; have HO448 := n0_; have HO451 := n1_; have BK421 := n2_; have HB := n3_; clear n0_ n1_ n2_ n3_; (try clear hb); (try clear hb2); (try clear hk); (try clear hi); obtain ⟨Ao64, co64, eo64⟩ := Kd.R_slice HO448.out; subst eo64; obtain ⟨Ao65, co65, eo65⟩ := Kd.R_slice HO451.out; subst eo65) | ((with_reducible refine gate_callee (f := 20) rfl ?_); refine goesL_ (some 61) rfl rfl Try.func20 (by kernel_rfl) rfl #[.agg #[.int .i64 t439, .string t440, .int .i64 t441, .int .i64 t442, .int .i64 t443, .float .f64 t444, .string t445, .slice Ao64 t446.length co64, .slice Ao65 t449.length co65], .agg #[.int .i64 t452, .int .i64 t453, .float .f64 t454, .string t455]] rfl (by (try simp only [List.map_toArray, List.map_cons, List.map_nil]); first | done | rfl | (simp only [List.length_drop, List.length_take]; rfl)) ?_; (with_reducible refine (atom_Test.calls kj13 t439 t440 t441 t442 t443 t444 t445 _ _ t446 _ _ t449 t452 t453 t454 t455 t456 _ ?side1 ?side2 ?side3 ?side4 A42.out).mono ?_); (case side1 => repeat (first | exact (Kd.R_reads' HO448.out).2.2 | (with_reducible refine Kd.C_alloc ?_ _) | (with_reducible refine Kd.C_drewN ?_ _) | (with_reducible refine Kd.C_drew ?_))); (case side2 => exact (Kd.R_reads' HO448.out).2.1); (case side3 => repeat (first | exact (Kd.R_reads' HO451.out).2.2 | (with_reducible refine Kd.C_alloc ?_ _) | (with_reducible refine Kd.C_drewN ?_ _) | (with_reducible refine Kd.C_drew ?_))); (case side4 => exact (Kd.R_reads' HO451.out).2.1); rintro e w66 ⟨rfl, hb⟩; refine ⟨_, rfl, ?_⟩; have n0_ := Aside0.mk (Kd.R_below (by (with_reducible repeat (first | apply Kd.R_alloc | apply Kd.R_drewN | apply Kd.R_drew)); exact HO448.out) hb); have n1_ := Aside0.mk (Kd.R_below (by (with_reducible repeat (first | apply Kd.R_alloc | apply Kd.R_drewN | apply Kd.R_drew)); exact HO451.out) hb); have n2_ := blkS BK421 hb; have n3_ := Aside0.mk (below_step (by repeat (first | (with_reducible first | exact HB.out | apply below_alloc | apply pw_below_drewN | apply below_drew1 | refine below_set ?_ GE421.out) | exact HB.out)) hb); clear HO448; clear HO451; clear BK421; clear HB; have HO448 := n0_; have HO451 := n1_; have BK421 := n2_; have HB := n3_; clear n0_ n1_ n2_ n3_; (try clear hb); (try clear hb2); (try clear hk); (try clear hi)) | ((with_reducible refine gate_callee (f := 27) rfl ?_); refine goesL_ (some 65) rfl rfl Try.func27 (by kernel_rfl) rfl #[.string a2, .string a0] rfl (by (try simp only [List.map_toArray, List.map_cons, List.map_nil]); first | done | rfl | (simp only [List.length_drop, List.length_take]; rfl)) ?_; (with_reducible refine (colonnadelaw18_begins.calls a2 a0 false _ A44.out).mono ?_); rintro e w' ⟨rfl, ⟨nd, rfl⟩⟩; refine ⟨_, rfl, ?_⟩) | (go_at_call 14; (with_reducible refine (colonnadelaw18_word.calls a0 t458 t459 t460 t461 _ A52.out).mono ?_); rintro e w67 ⟨rfl, hb⟩; (try clear A52); have n0_ := Aside0.mk (Kd.R_below (by (with_reducible repeat (first | apply Kd.R_alloc | apply Kd.R_drewN | apply Kd.R_drew)); exact HO448.out) hb); have n1_ := Aside0.mk (Kd.R_below (by (with_reducible repeat (first | apply Kd.R_alloc | apply Kd.R_drewN | apply Kd.R_drew)); exact HO451.out) hb); have n2_ := blkS BK421 hb; have n3_ := Aside0.mk (below_step (by repeat (first | (with_reducible first | exact HB.out | apply below_alloc | apply pw_below_drewN | apply below_drew1 | refine below_set ?_ GE421.out) | exact HB.out)) hb); clear HO448; clear HO451; clear BK421; clear HB; have HO448 := n0_; have HO451 := n1_; have BK421 := n2_; have HB := n3_; clear n0_ n1_ n2_ n3_; (try clear hb); (try clear hb2); (try clear hk); (try clear hi)) | (go_at_call 28; (with_reducible refine (colonnadelaw18_compared.calls 5 t458 t459 t460 t461 t462 t463 t464 t465 t466 t467 t468 t469 t472 _ A53.out).mono ?_); rintro e w68 ⟨v470, v473, rfl, ho0, ho1, hb⟩; (try clear A53); have n0_ := Aside0.mk (Kd.R_elder' (by (with_reducible repeat (first | apply Kd.R_alloc | apply Kd.R_drewN | apply Kd.R_drew)); exact HO448.out) (Kd.R_base ho0) hb); have n1_ := Aside0.mk (Kd.R_mono (Kd.R_told (Kd.R_told (Kd.R_old (by (with_reducible repeat (first | apply Kd.R_alloc | apply Kd.R_drewN | apply Kd.R_drew)); exact HO451.out) hb) (Kd.R_base ho0)) (Kd.R_base ho1)) (fun _ h_ => h_.1)); have n2_ := Aside0.mk (Kd.R_lower (Kd.R_new' ho0 (Kd.R_lt (by (with_reducible repeat (first | apply Kd.R_alloc | apply Kd.R_drewN | apply Kd.R_drew)); exact HO448.out))) (below_size (by repeat (first | (with_reducible first | exact HB.out | apply below_alloc | apply pw_below_drewN | apply below_drew1 | refine below_set ?_ GE421.out) | exact HB.out)))); have n3_ := Aside0.mk (Kd.R_lower (Kd.R_newB (Kd.R_new' (Kd.R_new' ho1 (Kd.R_lt (by (with_reducible repeat (first | apply Kd.R_alloc | apply Kd.R_drewN | apply Kd.R_drew)); exact HO448.out))) (Kd.R_lt (by (with_reducible repeat (first | apply Kd.R_alloc | apply Kd.R_drewN | apply Kd.R_drew)); exact HO451.out))) (g := gb421) (o := .cells #[.int .i64 5, .string (⟨#[99]⟩ : ByteArray), .int .i64 0, .int .i64 t417, .int .i64 t418, .float .f64 t419, .string t420, .slice none 0 0, .slice none 0 0] 32 (0, 0)) (by (with_reducible repeat (first | refine blk_drewN ?_ _ | refine blk_drew ?_ | refine blk_alloc ?_ _)); exact BK421.out)) (below_size (by repeat (first | (with_reducible first | exact HB.out | apply below_alloc | apply pw_below_drewN | apply below_drew1 | refine below_set ?_ GE421.out) | exact HB.out)))); have n4_ := blkS BK421 hb; have n5_ := Aside0.mk (below_step (by repeat (first | (with_reducible first | exact HB.out | apply below_alloc | apply pw_below_drewN | apply below_drew1 | refine below_set ?_ GE421.out) | exact HB.out)) hb); clear HO448; clear HO451; clear BK421; clear HB; have HO448 := n0_; have HO451 := n1_; have HO471 := n2_; have HO474 := n3_; have BK421 := n4_; have HB := n5_; clear n0_ n1_ n2_ n3_ n4_ n5_; (try clear hb); (try clear hb2); (try clear hk); (try clear hi); (try clear ho0); (try clear ho1)) | (go_at_call 14; (with_reducible refine (colonnadelaw18_word.calls a2 t475 t476 t477 t478 _ A54.out).mono ?_); rintro e w69 ⟨rfl, hb⟩; (try clear A54); have n0_ := Aside0.mk (Kd.R_below (by (with_reducible repeat (first | apply Kd.R_alloc | apply Kd.R_drewN | apply Kd.R_drew)); exact HO448.out) hb); have n1_ := Aside0.mk (Kd.R_below (by (with_reducible repeat (first | apply Kd.R_alloc | apply Kd.R_drewN | apply Kd.R_drew)); exact HO451.out) hb); have n2_ := Aside0.mk (Kd.R_below (by (with_reducible repeat (first | apply Kd.R_alloc | apply Kd.R_drewN | apply Kd.R_drew)); exact HO471.out) hb); have n3_ := Aside0.mk (Kd.R_below (by (with_reducible repeat (first | apply Kd.R_alloc | apply Kd.R_drewN | apply Kd.R_drew)); exact HO474.out) hb); have n4_ := blkS BK421 hb; have n5_ := Aside0.mk (below_step (by repeat (first | (with_reducible first | exact HB.out | apply below_alloc | apply pw_below_drewN | apply below_drew1 | refine below_set ?_ GE421.out) | exact HB.out)) hb); clear HO448; clear HO451; clear HO471; clear HO474; clear BK421; clear HB; have HO448 := n0_; have HO451 := n1_; have HO471 := n2_; have HO474 := n3_; have BK421 := n4_; have HB := n5_; clear n0_ n1_ n2_ n3_ n4_ n5_; (try clear hb); (try clear hb2); (try clear hk); (try clear hi); obtain ⟨Ao70, co70, eo70⟩ := Kd.R_slice HO471.out; subst eo70; obtain ⟨Ao71, co71, eo71⟩ := Kd.R_slice HO474.out; subst eo71) | (go_at_call 20; (with_reducible refine (atom_Test.calls kj13 t462 t463 t464 t465 t466 t467 t468 _ _ t469 _ _ t472 t475 t476 t477 t478 t479 _ ?side1 ?side2 ?side3 ?side4 A55.out).mono ?_); (case side1 => repeat (first | exact (Kd.R_reads' HO471.out).2.2 | (with_reducible refine Kd.C_alloc ?_ _) | (with_reducible refine Kd.C_drewN ?_ _) | (with_reducible refine Kd.C_drew ?_))); (case side2 => exact (Kd.R_reads' HO471.out).2.1); (case side3 => repeat (first | exact (Kd.R_reads' HO474.out).2.2 | (with_reducible refine Kd.C_alloc ?_ _) | (with_reducible refine Kd.C_drewN ?_ _) | (with_reducible refine Kd.C_drew ?_))); (case side4 => exact (Kd.R_reads' HO474.out).2.1); rintro e w72 ⟨rfl, hb⟩; (try clear A55); have n0_ := Aside0.mk (Kd.R_below (by (with_reducible repeat (first | apply Kd.R_alloc | apply Kd.R_drewN | apply Kd.R_drew)); exact HO448.out) hb); have n1_ := Aside0.mk (Kd.R_below (by (with_reducible repeat (first | apply Kd.R_alloc | apply Kd.R_drewN | apply Kd.R_drew)); exact HO451.out) hb); have n2_ := Aside0.mk (Kd.R_below (by (with_reducible repeat (first | apply Kd.R_alloc | apply Kd.R_drewN | apply Kd.R_drew)); exact HO471.out) hb); have n3_ := Aside0.mk (Kd.R_below (by (with_reducible repeat (first | apply Kd.R_alloc | apply Kd.R_drewN | apply Kd.R_drew)); exact HO474.out) hb); have n4_ := blkS BK421 hb; have n5_ := Aside0.mk (below_step (by repeat (first | (with_reducible first | exact HB.out | apply below_alloc | apply pw_below_drewN | apply below_drew1 | refine below_set ?_ GE421.out) | exact HB.out)) hb); clear HO448; clear HO451; clear HO471; clear HO474; clear BK421; clear HB; have HO448 := n0_; have HO451 := n1_; have HO471 := n2_; have HO474 := n3_; have BK421 := n4_; have HB := n5_; clear n0_ n1_ n2_ n3_ n4_ n5_; (try clear hb); (try clear hb2); (try clear hk); (try clear hi)) | (go_at_call 14; (with_reducible refine (colonnadelaw18_word.calls a2 t480 t481 t482 t483 _ A57.out).mono ?_); rintro e w73 ⟨rfl, hb⟩; (try clear A57); have n0_ := Aside0.mk (Kd.R_below (by (with_reducible repeat (first | apply Kd.R_alloc | apply Kd.R_drewN | apply Kd.R_drew)); exact HO448.out) hb); have n1_ := Aside0.mk (Kd.R_below (by (with_reducible repeat (first | apply Kd.R_alloc | apply Kd.R_drewN | apply Kd.R_drew)); exact HO451.out) hb); have n2_ := Aside0.mk (Kd.R_below (by (with_reducible repeat (first | apply Kd.R_alloc | apply Kd.R_drewN | apply Kd.R_drew)); exact HO471.out) hb); have n3_ := Aside0.mk (Kd.R_below (by (with_reducible repeat (first | apply Kd.R_alloc | apply Kd.R_drewN | apply Kd.R_drew)); exact HO474.out) hb); have n4_ := blkS BK421 hb; have n5_ := Aside0.mk (below_step (by repeat (first | (with_reducible first | exact HB.out | apply below_alloc | apply pw_below_drewN | apply below_drew1 | refine below_set ?_ GE421.out) | exact HB.out)) hb); clear HO448; clear HO451; clear HO471; clear HO474; clear BK421; clear HB; have HO448 := n0_; have HO451 := n1_; have HO471 := n2_; have HO474 := n3_; have BK421 := n4_; have HB := n5_; clear n0_ n1_ n2_ n3_ n4_ n5_; (try clear hb); (try clear hb2); (try clear hk); (try clear hi)) | (go_at_call 28; (with_reducible refine (colonnadelaw18_compared.calls 3 t480 t481 t482 t483 t484 t485 t486 t487 t488 t489 t490 t491 t494 _ A58.out).mono ?_); rintro e w74 ⟨v492, v495, rfl, ho0, ho1, hb⟩; (try clear A58); have n0_ := Aside0.mk (Kd.R_elder' (by (with_reducible repeat (first | apply Kd.R_alloc | apply Kd.R_drewN | apply Kd.R_drew)); exact HO448.out) (Kd.R_base ho0) hb); have n1_ := Aside0.mk (Kd.R_mono (Kd.R_told (Kd.R_told (Kd.R_old (by (with_reducible repeat (first | apply Kd.R_alloc | apply Kd.R_drewN | apply Kd.R_drew)); exact HO451.out) hb) (Kd.R_base ho0)) (Kd.R_base ho1)) (fun _ h_ => h_.1)); have n2_ := Aside0.mk (Kd.R_elder' (by (with_reducible repeat (first | apply Kd.R_alloc | apply Kd.R_drewN | apply Kd.R_drew)); exact HO471.out) (Kd.R_base ho0) hb); have n3_ := Aside0.mk (Kd.R_mono (Kd.R_told (Kd.R_told (Kd.R_old (by (with_reducible repeat (first | apply Kd.R_alloc | apply Kd.R_drewN | apply Kd.R_drew)); exact HO474.out) hb) (Kd.R_base ho0)) (Kd.R_base ho1)) (fun _ h_ => h_.1)); have n4_ := Aside0.mk (Kd.R_lower (Kd.R_new' (Kd.R_new' ho0 (Kd.R_lt (by (with_reducible repeat (first | apply Kd.R_alloc | apply Kd.R_drewN | apply Kd.R_drew)); exact HO448.out))) (Kd.R_lt (by (with_reducible repeat (first | apply Kd.R_alloc | apply Kd.R_drewN | apply Kd.R_drew)); exact HO471.out))) (below_size (by repeat (first | (with_reducible first | exact HB.out | apply below_alloc | apply pw_below_drewN | apply below_drew1 | refine below_set ?_ GE421.out) | exact HB.out)))); have n5_ := Aside0.mk (Kd.R_lower (Kd.R_newB (Kd.R_new' (Kd.R_new' (Kd.R_new' (Kd.R_new' ho1 (Kd.R_lt (by (with_reducible repeat (first | apply Kd.R_alloc | apply Kd.R_drewN | apply Kd.R_drew)); exact HO448.out))) (Kd.R_lt (by (with_reducible repeat (first | apply Kd.R_alloc | apply Kd.R_drewN | apply Kd.R_drew)); exact HO451.out))) (Kd.R_lt (by (with_reducible repeat (first | apply Kd.R_alloc | apply Kd.R_drewN | apply Kd.R_drew)); exact HO471.out))) (Kd.R_lt (by (with_reducible repeat (first | apply Kd.R_alloc | apply Kd.R_drewN | apply Kd.R_drew)); exact HO474.out))) (g := gb421) (o := .cells #[.int .i64 5, .string (⟨#[99]⟩ : ByteArray), .int .i64 0, .int .i64 t417, .int .i64 t418, .float .f64 t419, .string t420, .slice none 0 0, .slice none 0 0] 32 (0, 0)) (by (with_reducible repeat (first | refine blk_drewN ?_ _ | refine blk_drew ?_ | refine blk_alloc ?_ _)); exact BK421.out)) (below_size (by repeat (first | (with_reducible first | exact HB.out | apply below_alloc | apply pw_below_drewN | apply below_drew1 | refine below_set ?_ GE421.out) | exact HB.out)))); have n6_ := blkS BK421 hb; have n7_ := Aside0.mk (below_step (by repeat (first | (with_reducible first | exact HB.out | apply below_alloc | apply pw_below_drewN | apply below_drew1 | refine below_set ?_ GE421.out) | exact HB.out)) hb); clear HO448; clear HO451; clear HO471; clear HO474; clear BK421; clear HB; have HO448 := n0_; have HO451 := n1_; have HO471 := n2_; have HO474 := n3_; have HO493 := n4_; have HO496 := n5_; have BK421 := n6_; have HB := n7_; clear n0_ n1_ n2_ n3_ n4_ n5_ n6_ n7_; (try clear hb); (try clear hb2); (try clear hk); (try clear hi); (try clear ho0); (try clear ho1)) | (go_at_call 14; (with_reducible refine (colonnadelaw18_word.calls a1 t497 t498 t499 t500 _ A59.out).mono ?_); rintro e w75 ⟨rfl, hb⟩; (try clear A59); have n0_ := Aside0.mk (Kd.R_below (by (with_reducible repeat (first | apply Kd.R_alloc | apply Kd.R_drewN | apply Kd.R_drew)); exact HO448.out) hb); have n1_ := Aside0.mk (Kd.R_below (by (with_reducible repeat (first | apply Kd.R_alloc | apply Kd.R_drewN | apply Kd.R_drew)); exact HO451.out) hb); have n2_ := Aside0.mk (Kd.R_below (by (with_reducible repeat (first | apply Kd.R_alloc | apply Kd.R_drewN | apply Kd.R_drew)); exact HO471.out) hb); have n3_ := Aside0.mk (Kd.R_below (by (with_reducible repeat (first | apply Kd.R_alloc | apply Kd.R_drewN | apply Kd.R_drew)); exact HO474.out) hb); have n4_ := Aside0.mk (Kd.R_below (by (with_reducible repeat (first | apply Kd.R_alloc | apply Kd.R_drewN | apply Kd.R_drew)); exact HO493.out) hb); have n5_ := Aside0.mk (Kd.R_below (by (with_reducible repeat (first | apply Kd.R_alloc | apply Kd.R_drewN | apply Kd.R_drew)); exact HO496.out) hb); have n6_ := blkS BK421 hb; have n7_ := Aside0.mk (below_step (by repeat (first | (with_reducible first | exact HB.out | apply below_alloc | apply pw_below_drewN | apply below_drew1 | refine below_set ?_ GE421.out) | exact HB.out)) hb); clear HO448; clear HO451; clear HO471; clear HO474; clear HO493; clear HO496; clear BK421; clear HB; have HO448 := n0_; have HO451 := n1_; have HO471 := n2_; have HO474 := n3_; have HO493 := n4_; have HO496 := n5_; have BK421 := n6_; have HB := n7_; clear n0_ n1_ n2_ n3_ n4_ n5_ n6_ n7_; (try clear hb); (try clear hb2); (try clear hk); (try clear hi); obtain ⟨Ao76, co76, eo76⟩ := Kd.R_slice HO493.out; subst eo76; obtain ⟨Ao77, co77, eo77⟩ := Kd.R_slice HO496.out; subst eo77) | (go_at_call 20; (with_reducible refine (atom_Test.calls kj13 t484 t485 t486 t487 t488 t489 t490 _ _ t491 _ _ t494 t497 t498 t499 t500 t501 _ ?side1 ?side2 ?side3 ?side4 A60.out).mono ?_); (case side1 => repeat (first | exact (Kd.R_reads' HO493.out).2.2 | (with_reducible refine Kd.C_alloc ?_ _) | (with_reducible refine Kd.C_drewN ?_ _) | (with_reducible refine Kd.C_drew ?_))); (case side2 => exact (Kd.R_reads' HO493.out).2.1); (case side3 => repeat (first | exact (Kd.R_reads' HO496.out).2.2 | (with_reducible refine Kd.C_alloc ?_ _) | (with_reducible refine Kd.C_drewN ?_ _) | (with_reducible refine Kd.C_drew ?_))); (case side4 => exact (Kd.R_reads' HO496.out).2.1); rintro e w78 ⟨rfl, hb⟩; (try clear A60); have n0_ := Aside0.mk (Kd.R_below (by (with_reducible repeat (first | apply Kd.R_alloc | apply Kd.R_drewN | apply Kd.R_drew)); exact HO448.out) hb); have n1_ := Aside0.mk (Kd.R_below (by (with_reducible repeat (first | apply Kd.R_alloc | apply Kd.R_drewN | apply Kd.R_drew)); exact HO451.out) hb); have n2_ := Aside0.mk (Kd.R_below (by (with_reducible repeat (first | apply Kd.R_alloc | apply Kd.R_drewN | apply Kd.R_drew)); exact HO471.out) hb); have n3_ := Aside0.mk (Kd.R_below (by (with_reducible repeat (first | apply Kd.R_alloc | apply Kd.R_drewN | apply Kd.R_drew)); exact HO474.out) hb); have n4_ := Aside0.mk (Kd.R_below (by (with_reducible repeat (first | apply Kd.R_alloc | apply Kd.R_drewN | apply Kd.R_drew)); exact HO493.out) hb); have n5_ := Aside0.mk (Kd.R_below (by (with_reducible repeat (first | apply Kd.R_alloc | apply Kd.R_drewN | apply Kd.R_drew)); exact HO496.out) hb); have n6_ := blkS BK421 hb; have n7_ := Aside0.mk (below_step (by repeat (first | (with_reducible first | exact HB.out | apply below_alloc | apply pw_below_drewN | apply below_drew1 | refine below_set ?_ GE421.out) | exact HB.out)) hb); clear HO448; clear HO451; clear HO471; clear HO474; clear HO493; clear HO496; clear BK421; clear HB; have HO448 := n0_; have HO451 := n1_; have HO471 := n2_; have HO474 := n3_; have HO493 := n4_; have HO496 := n5_; have BK421 := n6_; have HB := n7_; clear n0_ n1_ n2_ n3_ n4_ n5_ n6_ n7_; (try clear hb); (try clear hb2); (try clear hk); (try clear hi)))
                        go_ret
                        exact ⟨by first | rfl | (simp [errW_none, errW_some] <;> rfl) | (simp [*, errW_none, errW_some] <;> rfl), by repeat (first | (with_reducible first | exact HB.out | apply below_alloc | apply pw_below_drewN | apply below_drew1 | refine below_set ?_ GE421.out) | exact HB.out)⟩
                      · rw [if_neg c56] at H
                        have c56b0 : (t479 == 1) = false := beq_eq_false_iff_ne.mpr c56
                        have c56b1 : (t479 != 1) = true := bne_iff_ne.mpr c56
                        obtain rfl := Option.some.inj H
                        go_wp2_with (first | ((with_reducible refine gate_callee (f := 14) rfl ?_); refine goesL_ (some 57) rfl rfl Try.func14 (by kernel_rfl) rfl #[.string a0] rfl (by (try simp only [List.map_toArray, List.map_cons, List.map_nil]); first | done | rfl | (simp only [List.length_drop, List.length_take]; rfl)) ?_; (with_reducible refine (colonnadelaw18_word.calls a0 t435 t436 t437 t438 _ A39.out).mono ?_); rintro e w79 ⟨rfl, hb⟩; refine ⟨_, rfl, ?_⟩; have n0_ := blkS BK421 hb; have n1_ := Aside0.mk (below_step (by repeat (first | (with_reducible first | exact HB.out | apply below_alloc | apply pw_below_drewN | apply below_drew1 | refine below_set ?_ GE421.out) | exact HB.out)) hb); clear BK421; clear HB; have BK421 := n0_; have HB := n1_; clear n0_ n1_; (try clear hb); (try clear hb2); (try clear hk); (try clear hi)) | ((with_reducible refine gate_callee (f := 28) rfl ?_); refine goesL_ (some 58) rfl rfl Try.func28 (by kernel_rfl) rfl #[.int .i64 6, .agg #[.int .i64 t435, .int .i64 t436, .float .f64 t437, .string t438]] rfl (by (try simp only [List.map_toArray, List.map_cons, List.map_nil]); first | done | rfl | (simp only [List.length_drop, List.length_take]; rfl)) ?_; (with_reducible refine (colonnadelaw18_compared.calls 6 t435 t436 t437 t438 t439 t440 t441 t442 t443 t444 t445 t446 t449 _ A40.out).mono ?_); rintro e w80 ⟨v447, v450, rfl, ho0, ho1, hb⟩; refine ⟨_, rfl, ?_⟩; have n0_ := Aside0.mk (Kd.R_lower ho0 (below_size (by repeat (first | (with_reducible first | exact HB.out | apply below_alloc | apply pw_below_drewN | apply below_drew1 | refine below_set ?_ GE421.out) | exact HB.out)))); have n1_ := Aside0.mk (Kd.R_lower (Kd.R_newB ho1 (g := gb421) (o := .cells #[.int .i64 5, .string (⟨#[99]⟩ : ByteArray), .int .i64 0, .int .i64 t417, .int .i64 t418, .float .f64 t419, .string t420, .slice none 0 0, .slice none 0 0] 32 (0, 0)) (by (with_reducible repeat (first | refine blk_drewN ?_ _ | refine blk_drew ?_ | refine blk_alloc ?_ _)); exact BK421.out)) (below_size (by repeat (first | (with_reducible first | exact HB.out | apply below_alloc | apply pw_below_drewN | apply below_drew1 | refine below_set ?_ GE421.out) | exact HB.out)))); have n2_ := blkS BK421 hb; have n3_ := Aside0.mk (below_step (by repeat (first | (with_reducible first | exact HB.out | apply below_alloc | apply pw_below_drewN | apply below_drew1 | refine below_set ?_ GE421.out) | exact HB.out)) hb); clear BK421; clear HB; have HO448 := n0_; have HO451 := n1_; have BK421 := n2_; have HB := n3_; clear n0_ n1_ n2_ n3_; (try clear hb); (try clear hb2); (try clear hk); (try clear hi); (try clear ho0); (try clear ho1)) | ((with_reducible refine gate_callee (f := 14) rfl ?_); refine goesL_ (some 60) rfl rfl Try.func14 (by kernel_rfl) rfl #[.string a1] rfl (by (try simp only [List.map_toArray, List.map_cons, List.map_nil]); first | done | rfl | (simp only [List.length_drop, List.length_take]; rfl)) ?_; (with_reducible refine (colonnadelaw18_word.calls a1 t452 t453 t454 t455 _ A41.out).mono ?_); rintro e w81 ⟨rfl, hb⟩; refine ⟨_, rfl, ?_⟩; have n0_ := Aside0.mk (Kd.R_below (by (with_reducible repeat (first | apply Kd.R_alloc | apply Kd.R_drewN | apply Kd.R_drew)); exact HO448.out) hb); have n1_ := Aside0.mk (Kd.R_below (by (with_reducible repeat (first | apply Kd.R_alloc | apply Kd.R_drewN | apply Kd.R_drew)); exact HO451.out) hb); have n2_ := blkS BK421 hb; have n3_ := Aside0.mk (below_step (by repeat (first | (with_reducible first | exact HB.out | apply below_alloc | apply pw_below_drewN | apply below_drew1 | refine below_set ?_ GE421.out) | exact HB.out)) hb); clear HO448; clear HO451; clear BK421; clear HB; have HO448 := n0_; have HO451 := n1_; have BK421 := n2_; have HB := n3_; clear n0_ n1_ n2_ n3_; (try clear hb); (try clear hb2); (try clear hk); (try clear hi); obtain ⟨Ao82, co82, eo82⟩ := Kd.R_slice HO448.out; subst eo82; obtain ⟨Ao83, co83, eo83⟩ := Kd.R_slice HO451.out; subst eo83) | ((with_reducible refine gate_callee (f := 20) rfl ?_); refine goesL_ (some 61) rfl rfl Try.func20 (by kernel_rfl) rfl #[.agg #[.int .i64 t439, .string t440, .int .i64 t441, .int .i64 t442, .int .i64 t443, .float .f64 t444, .string t445, .slice Ao82 t446.length co82, .slice Ao83 t449.length co83], .agg #[.int .i64 t452, .int .i64 t453, .float .f64 t454, .string t455]] rfl (by (try simp only [List.map_toArray, List.map_cons, List.map_nil]); first | done | rfl | (simp only [List.length_drop, List.length_take]; rfl)) ?_; (with_reducible refine (atom_Test.calls kj13 t439 t440 t441 t442 t443 t444 t445 _ _ t446 _ _ t449 t452 t453 t454 t455 t456 _ ?side1 ?side2 ?side3 ?side4 A42.out).mono ?_); (case side1 => repeat (first | exact (Kd.R_reads' HO448.out).2.2 | (with_reducible refine Kd.C_alloc ?_ _) | (with_reducible refine Kd.C_drewN ?_ _) | (with_reducible refine Kd.C_drew ?_))); (case side2 => exact (Kd.R_reads' HO448.out).2.1); (case side3 => repeat (first | exact (Kd.R_reads' HO451.out).2.2 | (with_reducible refine Kd.C_alloc ?_ _) | (with_reducible refine Kd.C_drewN ?_ _) | (with_reducible refine Kd.C_drew ?_))); (case side4 => exact (Kd.R_reads' HO451.out).2.1); rintro e w84 ⟨rfl, hb⟩; refine ⟨_, rfl, ?_⟩; have n0_ := Aside0.mk (Kd.R_below (by (with_reducible repeat (first | apply Kd.R_alloc | apply Kd.R_drewN | apply Kd.R_drew)); exact HO448.out) hb); have n1_ := Aside0.mk (Kd.R_below (by (with_reducible repeat (first | apply Kd.R_alloc | apply Kd.R_drewN | apply Kd.R_drew)); exact HO451.out) hb); have n2_ := blkS BK421 hb; have n3_ := Aside0.mk (below_step (by repeat (first | (with_reducible first | exact HB.out | apply below_alloc | apply pw_below_drewN | apply below_drew1 | refine below_set ?_ GE421.out) | exact HB.out)) hb); clear HO448; clear HO451; clear BK421; clear HB; have HO448 := n0_; have HO451 := n1_; have BK421 := n2_; have HB := n3_; clear n0_ n1_ n2_ n3_; (try clear hb); (try clear hb2); (try clear hk); (try clear hi)) | ((with_reducible refine gate_callee (f := 27) rfl ?_); refine goesL_ (some 65) rfl rfl Try.func27 (by kernel_rfl) rfl #[.string a2, .string a0] rfl (by (try simp only [List.map_toArray, List.map_cons, List.map_nil]); first | done | rfl | (simp only [List.length_drop, List.length_take]; rfl)) ?_; (with_reducible refine (colonnadelaw18_begins.calls a2 a0 false _ A44.out).mono ?_); rintro e w' ⟨rfl, ⟨nd, rfl⟩⟩; refine ⟨_, rfl, ?_⟩) | (go_at_call 14; (with_reducible refine (colonnadelaw18_word.calls a0 t458 t459 t460 t461 _ A52.out).mono ?_); rintro e w85 ⟨rfl, hb⟩; (try clear A52); have n0_ := Aside0.mk (Kd.R_below (by (with_reducible repeat (first | apply Kd.R_alloc | apply Kd.R_drewN | apply Kd.R_drew)); exact HO448.out) hb); have n1_ := Aside0.mk (Kd.R_below (by (with_reducible repeat (first | apply Kd.R_alloc | apply Kd.R_drewN | apply Kd.R_drew)); exact HO451.out) hb); have n2_ := blkS BK421 hb; have n3_ := Aside0.mk (below_step (by repeat (first | (with_reducible first | exact HB.out | apply below_alloc | apply pw_below_drewN | apply below_drew1 | refine below_set ?_ GE421.out) | exact HB.out)) hb); clear HO448; clear HO451; clear BK421; clear HB; have HO448 := n0_; have HO451 := n1_; have BK421 := n2_; have HB := n3_; clear n0_ n1_ n2_ n3_; (try clear hb); (try clear hb2); (try clear hk); (try clear hi)) | (go_at_call 28; (with_reducible refine (colonnadelaw18_compared.calls 5 t458 t459 t460 t461 t462 t463 t464 t465 t466 t467 t468 t469 t472 _ A53.out).mono ?_); rintro e w86 ⟨v470, v473, rfl, ho0, ho1, hb⟩; (try clear A53); have n0_ := Aside0.mk (Kd.R_elder' (by (with_reducible repeat (first | apply Kd.R_alloc | apply Kd.R_drewN | apply Kd.R_drew)); exact HO448.out) (Kd.R_base ho0) hb); have n1_ := Aside0.mk (Kd.R_mono (Kd.R_told (Kd.R_told (Kd.R_old (by (with_reducible repeat (first | apply Kd.R_alloc | apply Kd.R_drewN | apply Kd.R_drew)); exact HO451.out) hb) (Kd.R_base ho0)) (Kd.R_base ho1)) (fun _ h_ => h_.1)); have n2_ := Aside0.mk (Kd.R_lower (Kd.R_new' ho0 (Kd.R_lt (by (with_reducible repeat (first | apply Kd.R_alloc | apply Kd.R_drewN | apply Kd.R_drew)); exact HO448.out))) (below_size (by repeat (first | (with_reducible first | exact HB.out | apply below_alloc | apply pw_below_drewN | apply below_drew1 | refine below_set ?_ GE421.out) | exact HB.out)))); have n3_ := Aside0.mk (Kd.R_lower (Kd.R_newB (Kd.R_new' (Kd.R_new' ho1 (Kd.R_lt (by (with_reducible repeat (first | apply Kd.R_alloc | apply Kd.R_drewN | apply Kd.R_drew)); exact HO448.out))) (Kd.R_lt (by (with_reducible repeat (first | apply Kd.R_alloc | apply Kd.R_drewN | apply Kd.R_drew)); exact HO451.out))) (g := gb421) (o := .cells #[.int .i64 5, .string (⟨#[99]⟩ : ByteArray), .int .i64 0, .int .i64 t417, .int .i64 t418, .float .f64 t419, .string t420, .slice none 0 0, .slice none 0 0] 32 (0, 0)) (by (with_reducible repeat (first | refine blk_drewN ?_ _ | refine blk_drew ?_ | refine blk_alloc ?_ _)); exact BK421.out)) (below_size (by repeat (first | (with_reducible first | exact HB.out | apply below_alloc | apply pw_below_drewN | apply below_drew1 | refine below_set ?_ GE421.out) | exact HB.out)))); have n4_ := blkS BK421 hb; have n5_ := Aside0.mk (below_step (by repeat (first | (with_reducible first | exact HB.out | apply below_alloc | apply pw_below_drewN | apply below_drew1 | refine below_set ?_ GE421.out) | exact HB.out)) hb); clear HO448; clear HO451; clear BK421; clear HB; have HO448 := n0_; have HO451 := n1_; have HO471 := n2_; have HO474 := n3_; have BK421 := n4_; have HB := n5_; clear n0_ n1_ n2_ n3_ n4_ n5_; (try clear hb); (try clear hb2); (try clear hk); (try clear hi); (try clear ho0); (try clear ho1)) | (go_at_call 14; (with_reducible refine (colonnadelaw18_word.calls a2 t475 t476 t477 t478 _ A54.out).mono ?_); rintro e w87 ⟨rfl, hb⟩; (try clear A54); have n0_ := Aside0.mk (Kd.R_below (by (with_reducible repeat (first | apply Kd.R_alloc | apply Kd.R_drewN | apply Kd.R_drew)); exact HO448.out) hb); have n1_ := Aside0.mk (Kd.R_below (by (with_reducible repeat (first | apply Kd.R_alloc | apply Kd.R_drewN | apply Kd.R_drew)); exact HO451.out) hb); have n2_ := Aside0.mk (Kd.R_below (by (with_reducible repeat (first | apply Kd.R_alloc | apply Kd.R_drewN | apply Kd.R_drew)); exact HO471.out) hb); have n3_ := Aside0.mk (Kd.R_below (by (with_reducible repeat (first | apply Kd.R_alloc | apply Kd.R_drewN | apply Kd.R_drew)); exact HO474.out) hb); have n4_ := blkS BK421 hb; have n5_ := Aside0.mk (below_step (by repeat (first | (with_reducible first | exact HB.out | apply below_alloc | apply pw_below_drewN | apply below_drew1 | refine below_set ?_ GE421.out) | exact HB.out)) hb); clear HO448; clear HO451; clear HO471; clear HO474; clear BK421; clear HB; have HO448 := n0_; have HO451 := n1_; have HO471 := n2_; have HO474 := n3_; have BK421 := n4_; have HB := n5_; clear n0_ n1_ n2_ n3_ n4_ n5_; (try clear hb); (try clear hb2); (try clear hk); (try clear hi); obtain ⟨Ao88, co88, eo88⟩ := Kd.R_slice HO471.out; subst eo88; obtain ⟨Ao89, co89, eo89⟩ := Kd.R_slice HO474.out; subst eo89) | (go_at_call 20; (with_reducible refine (atom_Test.calls kj13 t462 t463 t464 t465 t466 t467 t468 _ _ t469 _ _ t472 t475 t476 t477 t478 t479 _ ?side1 ?side2 ?side3 ?side4 A55.out).mono ?_); (case side1 => repeat (first | exact (Kd.R_reads' HO471.out).2.2 | (with_reducible refine Kd.C_alloc ?_ _) | (with_reducible refine Kd.C_drewN ?_ _) | (with_reducible refine Kd.C_drew ?_))); (case side2 => exact (Kd.R_reads' HO471.out).2.1); (case side3 => repeat (first | exact (Kd.R_reads' HO474.out).2.2 | (with_reducible refine Kd.C_alloc ?_ _) | (with_reducible refine Kd.C_drewN ?_ _) | (with_reducible refine Kd.C_drew ?_))); (case side4 => exact (Kd.R_reads' HO474.out).2.1); rintro e w90 ⟨rfl, hb⟩; (try clear A55); have n0_ := Aside0.mk (Kd.R_below (by (with_reducible repeat (first | apply Kd.R_alloc | apply Kd.R_drewN | apply Kd.R_drew)); exact HO448.out) hb); have n1_ := Aside0.mk (Kd.R_below (by (with_reducible repeat (first | apply Kd.R_alloc | apply Kd.R_drewN | apply Kd.R_drew)); exact HO451.out) hb); have n2_ := Aside0.mk (Kd.R_below (by (with_reducible repeat (first | apply Kd.R_alloc | apply Kd.R_drewN | apply Kd.R_drew)); exact HO471.out) hb); have n3_ := Aside0.mk (Kd.R_below (by (with_reducible repeat (first | apply Kd.R_alloc | apply Kd.R_drewN | apply Kd.R_drew)); exact HO474.out) hb); have n4_ := blkS BK421 hb; have n5_ := Aside0.mk (below_step (by repeat (first | (with_reducible first | exact HB.out | apply below_alloc | apply pw_below_drewN | apply below_drew1 | refine below_set ?_ GE421.out) | exact HB.out)) hb); clear HO448; clear HO451; clear HO471; clear HO474; clear BK421; clear HB; have HO448 := n0_; have HO451 := n1_; have HO471 := n2_; have HO474 := n3_; have BK421 := n4_; have HB := n5_; clear n0_ n1_ n2_ n3_ n4_ n5_; (try clear hb); (try clear hb2); (try clear hk); (try clear hi)))
                        go_ret
                        exact ⟨by first | rfl | (simp [errW_none, errW_some] <;> rfl) | (simp [*, errW_none, errW_some] <;> rfl), by repeat (first | (with_reducible first | exact HB.out | apply below_alloc | apply pw_below_drewN | apply below_drew1 | refine below_set ?_ GE421.out) | exact HB.out)⟩
                  · rw [if_neg c43] at H
                    exact absurd ((Option.some.inj H).trans htrue.out) (by decide)
                · rw [if_neg c38] at H
                  have c38b0 : (t426 == 1) = false := by simpa using c38
                  (try (have c38b1 : decide (t426 = 1) = false := by simpa using c38))
                  (try (have c38b2 : (t426 == 1) = false := by simpa using c38))
                  (try (have c38b3 : ¬ (t426 = 1) := by simpa using c38))
                  clear c38
                  obtain rfl := Option.some.inj H
                  go_wp2
                  go_ret
                  exact ⟨by first | rfl | (simp [errW_none, errW_some] <;> rfl) | (simp [*, errW_none, errW_some] <;> rfl), by repeat (first | (with_reducible first | exact HB.out | apply below_alloc | apply pw_below_drewN | apply below_drew1 | refine below_set ?_ GE421.out) | exact HB.out)⟩
  · replace c5 := Bool.eq_false_iff.mpr c5
    subst c5
    have H1 : (some false) = some r := by rw [if_neg (show ¬ (false = true) by decide)] at H; exact H
    exact absurd ((Option.some.inj H1).trans htrue.out) (by decide)

end Go.Proofs.Ytkedejphebfneaa.Pa
