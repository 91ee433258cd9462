-- Written by xprint.py, a program of this session, over the kit's print. Not trusted: Lean checks it.
import Derived.Test.YthpoomdillhcbaaPa0
import Derived.Test.YthpoomdillhcbaaPa3
namespace Go.Proofs.Ythpoomdillhcbaa.Pa
open Go.RowKit Go.Proofs.YthpoomdillhcbaaW.PrintWords Go.Proofs.YthpoomdillhcbaaW.PrintLast Go.Proofs.YthpoomdillhcbaaW.PrintMore
attribute [local go_sem] max2_int min2_int max_two min_two max_three min_three max_four min_four   -- for this text's walks alone
attribute [local go_sem] run_store_float
set_option linter.unusedVariables false
set_option linter.unusedSimpArgs false

/-! ### colonnadelaw07_CursorShort: function 4 -/
mutual
def colonnadelaw07_CursorShort.l0 : Nat → Int → Int → List Int → List Int → Int → Int → Option (Bool)
  | 0, _, _, _, _, _, _ => none
  | k + 1, x0, x1, x5, x6, x7, x8 => if x8 > 0 then (colonnadelaw07_CursorShort.l0 k x0 x1 x5 x6 (wrap64 (x7 + 1)) (x8 / 128)) else (if (x5.length : Int) = x7 then (colonnadelaw07_CursorShort.j1 k x0 x1 x5 x6 ((x6.length : Int) == 0)) else (colonnadelaw07_CursorShort.j1 k x0 x1 x5 x6 true))
def colonnadelaw07_CursorShort.j1 : Nat → Int → Int → List Int → List Int → Bool → Option (Bool)
  | 0, _, _, _, _, _ => none
  | k + 1, x0, x1, x5, x6, x32 => if x32 = true then (some false) else (colonnadelaw07_CursorShort.l1 k x0 x1 x5 x6 0 0)
def colonnadelaw07_CursorShort.l1 : Nat → Int → Int → List Int → List Int → Int → Int → Option (Bool)
  | 0, _, _, _, _, _, _ => none
  | k + 1, x0, x1, x5, x6, x9, x10 => if x10 < (x5.length : Int) then (if 0 ≤ x10 then (if 0 ≤ (IntKind.u64.wrap (wrap64 (7 * x10))) then (if ((decide ((rd x5 x10) ≥ 128)) != (decide ((wrap64 (x10 + 1)) < (x5.length : Int)))) = true then (some false) else (colonnadelaw07_CursorShort.l1 k x0 x1 x5 x6 (IntKind.u64.wrap (x9 + (shl .u64 (IntKind.u64.wrap (Int.tmod (rd x5 x10) 128)) (IntKind.u64.wrap (wrap64 (7 * x10)))))) (wrap64 (x10 + 1)))) else (none)) else (none)) else (if x9 = x0 then (if 0 ≤ (mn (x5.length : Int) (x6.length : Int)) then (if (mn (x5.length : Int) (x6.length : Int)) ≤ (x5.length : Int) then (if (mn (x5.length : Int) (x6.length : Int)) ≤ (x6.length : Int) then (some (((strOfNums (x5.take ((mn (x5.length : Int) (x6.length : Int)) : Int).toNat)).toList == (strOfNums (x6.take ((mn (x5.length : Int) (x6.length : Int)) : Int).toNat)).toList) == (x0 == x1))) else (none)) else (none)) else (none)) else (some false))
end
def colonnadelaw07_CursorShort.f (k : Nat) (a0 : Int) (a1 : Int) : Option (Bool) := (cursor_PutUvarint.f k ([] : List Int) a0).bind fun t113 => ((cursor_PutUvarint.f k ([] : List Int) a1).bind fun t116 => (colonnadelaw07_CursorShort.l0 k a0 a1 t113 t116 1 (a0 / 128)))
theorem colonnadelaw07_CursorShort.mono_l : ∀ k, (∀ y0 y1 y2 y3 y4 y5, LeO (colonnadelaw07_CursorShort.l0 k y0 y1 y2 y3 y4 y5) (colonnadelaw07_CursorShort.l0 (k + 1) y0 y1 y2 y3 y4 y5)) ∧ (∀ y0 y1 y2 y3 y4, LeO (colonnadelaw07_CursorShort.j1 k y0 y1 y2 y3 y4) (colonnadelaw07_CursorShort.j1 (k + 1) y0 y1 y2 y3 y4)) ∧ (∀ y0 y1 y2 y3 y4 y5, LeO (colonnadelaw07_CursorShort.l1 k y0 y1 y2 y3 y4 y5) (colonnadelaw07_CursorShort.l1 (k + 1) y0 y1 y2 y3 y4 y5))
  | 0 => ⟨fun _ _ _ _ _ _ r h => by simp [colonnadelaw07_CursorShort.l0] at h, fun _ _ _ _ _ r h => by simp [colonnadelaw07_CursorShort.j1] at h, fun _ _ _ _ _ _ r h => by simp [colonnadelaw07_CursorShort.l1] at h⟩
  | k + 1 => by
    obtain ⟨ih0, ih1, ih2⟩ := colonnadelaw07_CursorShort.mono_l k
    refine ⟨?_, ?_, ?_⟩
    · intro y0 y1 y2 y3 y4 y5
      unfold colonnadelaw07_CursorShort.l0
      repeat' first
      | (with_reducible exact ih0 _ _ _ _ _ _)
      | (with_reducible exact ih1 _ _ _ _ _)
      | (with_reducible exact ih2 _ _ _ _ _ _)
      | (with_reducible exact cursor_PutUvarint.mono _ _ _)
      | (with_reducible exact LeO.refl _)
      | (with_reducible exact LeO.none _)
      | (with_reducible refine LeO.ite ?_ ?_)
      | (with_reducible refine LeO.bind ?_ (fun _ => ?_))
      | exact ih0 _ _ _ _ _ _
      | exact ih1 _ _ _ _ _
      | exact ih2 _ _ _ _ _ _
      | exact cursor_PutUvarint.mono _ _ _
      | exact LeO.none _
      | refine LeO.ite ?_ ?_
      | refine LeO.bind ?_ (fun _ => ?_)
    · intro y0 y1 y2 y3 y4
      unfold colonnadelaw07_CursorShort.j1
      repeat' first
      | (with_reducible exact ih0 _ _ _ _ _ _)
      | (with_reducible exact ih1 _ _ _ _ _)
      | (with_reducible exact ih2 _ _ _ _ _ _)
      | (with_reducible exact cursor_PutUvarint.mono _ _ _)
      | (with_reducible exact LeO.refl _)
      | (with_reducible exact LeO.none _)
      | (with_reducible refine LeO.ite ?_ ?_)
      | (with_reducible refine LeO.bind ?_ (fun _ => ?_))
      | exact ih0 _ _ _ _ _ _
      | exact ih1 _ _ _ _ _
      | exact ih2 _ _ _ _ _ _
      | exact cursor_PutUvarint.mono _ _ _
      | exact LeO.none _
      | refine LeO.ite ?_ ?_
      | refine LeO.bind ?_ (fun _ => ?_)
    · intro y0 y1 y2 y3 y4 y5
      unfold colonnadelaw07_CursorShort.l1
      repeat' first
      | (with_reducible exact ih0 _ _ _ _ _ _)
      | (with_reducible exact ih1 _ _ _ _ _)
      | (with_reducible exact ih2 _ _ _ _ _ _)
      | (with_reducible exact cursor_PutUvarint.mono _ _ _)
      | (with_reducible exact LeO.refl _)
      | (with_reducible exact LeO.none _)
      | (with_reducible refine LeO.ite ?_ ?_)
      | (with_reducible refine LeO.bind ?_ (fun _ => ?_))
      | exact ih0 _ _ _ _ _ _
      | exact ih1 _ _ _ _ _
      | exact ih2 _ _ _ _ _ _
      | exact cursor_PutUvarint.mono _ _ _
      | exact LeO.none _
      | refine LeO.ite ?_ ?_
      | refine LeO.bind ?_ (fun _ => ?_)
theorem colonnadelaw07_CursorShort.mono : ∀ a0 a1 k, LeO (colonnadelaw07_CursorShort.f k a0 a1) (colonnadelaw07_CursorShort.f (k + 1) a0 a1) := by
  intro a0 a1 k
  obtain ⟨ih0, ih1, ih2⟩ := colonnadelaw07_CursorShort.mono_l k
  unfold colonnadelaw07_CursorShort.f
  repeat' first
      | (with_reducible exact ih0 _ _ _ _ _ _)
      | (with_reducible exact ih1 _ _ _ _ _)
      | (with_reducible exact ih2 _ _ _ _ _ _)
      | (with_reducible exact cursor_PutUvarint.mono _ _ _)
      | (with_reducible exact LeO.refl _)
      | (with_reducible exact LeO.none _)
      | (with_reducible refine LeO.ite ?_ ?_)
      | (with_reducible refine LeO.bind ?_ (fun _ => ?_))
      | exact ih0 _ _ _ _ _ _
      | exact ih1 _ _ _ _ _
      | exact ih2 _ _ _ _ _ _
      | exact cursor_PutUvarint.mono _ _ _
      | exact LeO.none _
      | refine LeO.ite ?_ ?_
      | refine LeO.bind ?_ (fun _ => ?_)
set_option maxHeartbeats 8000000 in
set_option maxRecDepth 100000 in
theorem colonnadelaw07_CursorShort.calls (k : Nat) (a0 : Int) (a1 : Int) (r : Bool) (w : World) (h : colonnadelaw07_CursorShort.f k a0 a1 = some r) :
    Calls Try.prog 4 #[.int .u64 a0, .int .u64 a1] w fun e w' => e = .returned (.bool r) ∧ Below w.heap.size w w' := by
  have HB := Aside0.mk (Below.refl w.heap.size w)
  have H : ((cursor_PutUvarint.f k ([] : List Int) a0).bind fun t113 => ((cursor_PutUvarint.f k ([] : List Int) a1).bind fun t116 => (colonnadelaw07_CursorShort.l0 k a0 a1 t113 t116 1 (a0 / 128)))) = some r := h
  clear h
  replace H := Option.bind_eq_some_iff.mp H
  obtain ⟨t113, A30, H⟩ := H
  replace H : ((cursor_PutUvarint.f k ([] : List Int) a1).bind fun t116 => (colonnadelaw07_CursorShort.l0 k a0 a1 t113 t116 1 (a0 / 128))) = some r := H
  have A3 := Aside0.mk A30
  clear A30
  replace H := Option.bind_eq_some_iff.mp H
  obtain ⟨t116, A40, H⟩ := H
  replace H : (colonnadelaw07_CursorShort.l0 k a0 a1 t113 t116 1 (a0 / 128)) = some r := H
  have A4 := Aside0.mk A40
  clear A40
  have H' := Aside0.mk H
  clear H
  go_enter Try.func4, Try.ntmps4
  go_wp2_with (first | (go_at_call 11; (with_reducible refine calls_of_args (args' := #[.slice none 0 0, .int .u64 a0]) rfl ?_); (refine (cursor_PutUvarint.calls k _ _ ([] : List Int) a0 t113 _ ?side1 ?side2 A3.out).mono ?_); (case side1 => exact Kd.C_nil _ _); (case side2 => exact Nat.le_refl _); rintro e w5 ⟨v114, rfl, ho0, hb⟩; have n0_ := Aside0.mk (Kd.R_lower ho0 (below_size (by repeat (first | (with_reducible first | exact HB.out | apply below_alloc | apply pw_below_drewN | apply below_drew1) | exact HB.out)))); have n1_ := Aside0.mk (below_step (by repeat (first | (with_reducible first | exact HB.out | apply below_alloc | apply pw_below_drewN | apply below_drew1) | exact HB.out)) hb); clear HB; have HO115 := n0_; have HB := n1_; clear n0_ n1_; (try clear hb); (try clear hb2); (try clear hk); (try clear hi); (try clear ho0)) | (go_at_call 11; (with_reducible refine calls_of_args (args' := #[.slice none 0 0, .int .u64 a1]) rfl ?_); (refine (cursor_PutUvarint.calls k _ _ ([] : List Int) a1 t116 _ ?side1 ?side2 A4.out).mono ?_); (case side1 => exact Kd.C_nil _ _); (case side2 => exact Nat.le_refl _); rintro e w6 ⟨v117, rfl, ho0, hb⟩; have n0_ := Aside0.mk (Kd.R_elder' (by (with_reducible repeat (first | apply Kd.R_alloc | apply Kd.R_drewN | apply Kd.R_drew)); exact HO115.out) (Kd.R_base ho0) hb); have n1_ := Aside0.mk (Kd.R_lower (Kd.R_new' ho0 (Kd.R_lt (by (with_reducible repeat (first | apply Kd.R_alloc | apply Kd.R_drewN | apply Kd.R_drew)); exact HO115.out))) (below_size (by repeat (first | (with_reducible first | exact HB.out | apply below_alloc | apply pw_below_drewN | apply below_drew1) | exact HB.out)))); have n2_ := Aside0.mk (below_step (by repeat (first | (with_reducible first | exact HB.out | apply below_alloc | apply pw_below_drewN | apply below_drew1) | exact HB.out)) hb); clear HO115; clear HB; have HO115 := n0_; have HO118 := n1_; have HB := n2_; clear n0_ n1_ n2_; (try clear hb); (try clear hb2); (try clear hk); (try clear hi); (try clear ho0)))
  repeat (go_quiet (first | (go_at_call 11; (with_reducible refine calls_of_args (args' := #[.slice none 0 0, .int .u64 a0]) rfl ?_); (refine (cursor_PutUvarint.calls k _ _ ([] : List Int) a0 t113 _ ?side1 ?side2 A3.out).mono ?_); (case side1 => exact Kd.C_nil _ _); (case side2 => exact Nat.le_refl _); rintro e w5 ⟨v114, rfl, ho0, hb⟩; have n0_ := Aside0.mk (Kd.R_lower ho0 (below_size (by repeat (first | (with_reducible first | exact HB.out | apply below_alloc | apply pw_below_drewN | apply below_drew1) | exact HB.out)))); have n1_ := Aside0.mk (below_step (by repeat (first | (with_reducible first | exact HB.out | apply below_alloc | apply pw_below_drewN | apply below_drew1) | exact HB.out)) hb); clear HB; have HO115 := n0_; have HB := n1_; clear n0_ n1_; (try clear hb); (try clear hb2); (try clear hk); (try clear hi); (try clear ho0)) | (go_at_call 11; (with_reducible refine calls_of_args (args' := #[.slice none 0 0, .int .u64 a1]) rfl ?_); (refine (cursor_PutUvarint.calls k _ _ ([] : List Int) a1 t116 _ ?side1 ?side2 A4.out).mono ?_); (case side1 => exact Kd.C_nil _ _); (case side2 => exact Nat.le_refl _); rintro e w6 ⟨v117, rfl, ho0, hb⟩; have n0_ := Aside0.mk (Kd.R_elder' (by (with_reducible repeat (first | apply Kd.R_alloc | apply Kd.R_drewN | apply Kd.R_drew)); exact HO115.out) (Kd.R_base ho0) hb); have n1_ := Aside0.mk (Kd.R_lower (Kd.R_new' ho0 (Kd.R_lt (by (with_reducible repeat (first | apply Kd.R_alloc | apply Kd.R_drewN | apply Kd.R_drew)); exact HO115.out))) (below_size (by repeat (first | (with_reducible first | exact HB.out | apply below_alloc | apply pw_below_drewN | apply below_drew1) | exact HB.out)))); have n2_ := Aside0.mk (below_step (by repeat (first | (with_reducible first | exact HB.out | apply below_alloc | apply pw_below_drewN | apply below_drew1) | exact HB.out)) hb); clear HO115; clear HB; have HO115 := n0_; have HO118 := n1_; have HB := n2_; clear n0_ n1_ n2_; (try clear hb); (try clear hb2); (try clear hk); (try clear hi); (try clear ho0))); try go_wp2_with (first | (go_at_call 11; (with_reducible refine calls_of_args (args' := #[.slice none 0 0, .int .u64 a0]) rfl ?_); (refine (cursor_PutUvarint.calls k _ _ ([] : List Int) a0 t113 _ ?side1 ?side2 A3.out).mono ?_); (case side1 => exact Kd.C_nil _ _); (case side2 => exact Nat.le_refl _); rintro e w5 ⟨v114, rfl, ho0, hb⟩; have n0_ := Aside0.mk (Kd.R_lower ho0 (below_size (by repeat (first | (with_reducible first | exact HB.out | apply below_alloc | apply pw_below_drewN | apply below_drew1) | exact HB.out)))); have n1_ := Aside0.mk (below_step (by repeat (first | (with_reducible first | exact HB.out | apply below_alloc | apply pw_below_drewN | apply below_drew1) | exact HB.out)) hb); clear HB; have HO115 := n0_; have HB := n1_; clear n0_ n1_; (try clear hb); (try clear hb2); (try clear hk); (try clear hi); (try clear ho0)) | (go_at_call 11; (with_reducible refine calls_of_args (args' := #[.slice none 0 0, .int .u64 a1]) rfl ?_); (refine (cursor_PutUvarint.calls k _ _ ([] : List Int) a1 t116 _ ?side1 ?side2 A4.out).mono ?_); (case side1 => exact Kd.C_nil _ _); (case side2 => exact Nat.le_refl _); rintro e w6 ⟨v117, rfl, ho0, hb⟩; have n0_ := Aside0.mk (Kd.R_elder' (by (with_reducible repeat (first | apply Kd.R_alloc | apply Kd.R_drewN | apply Kd.R_drew)); exact HO115.out) (Kd.R_base ho0) hb); have n1_ := Aside0.mk (Kd.R_lower (Kd.R_new' ho0 (Kd.R_lt (by (with_reducible repeat (first | apply Kd.R_alloc | apply Kd.R_drewN | apply Kd.R_drew)); exact HO115.out))) (below_size (by repeat (first | (with_reducible first | exact HB.out | apply below_alloc | apply pw_below_drewN | apply below_drew1) | exact HB.out)))); have n2_ := Aside0.mk (below_step (by repeat (first | (with_reducible first | exact HB.out | apply below_alloc | apply pw_below_drewN | apply below_drew1) | exact HB.out)) hb); clear HO115; clear HB; have HO115 := n0_; have HO118 := n1_; have HB := n2_; clear n0_ n1_ n2_; (try clear hb); (try clear hb2); (try clear hk); (try clear hi); (try clear ho0))))
  go_loopg [7, 8] k (fun kq v7 v8 w' => ∃ (x7_1 : Int) (x8_1 : Int), v7 = .int .i64 x7_1 ∧ v8 = .int .u64 x8_1 ∧ Aside0 (colonnadelaw07_CursorShort.l0 kq a0 a1 t113 t116 x7_1 x8_1 = some r) ∧ Aside0 (kq ≤ k) ∧ Aside0 (Kd.R (Kd.int .u8) 5 w' w.heap.size (fun k_ => some k_ ≠ (v117 : Value).ownBlock) v114 t113) ∧ Aside0 (Kd.R (Kd.int .u8) 5 w' w.heap.size (fun k_ => some k_ ≠ (v114 : Value).ownBlock) v117 t116) ∧ Aside0 (Below w.heap.size w w'))
  case atStart => exact ⟨(1), (a0 / 128), (by first | rfl | (simp; done) | (simp [*]; done)), (by first | rfl | (simp; done) | (simp [*]; done)), H', ⟨Nat.le_refl _⟩, ⟨by (with_reducible repeat (first | apply Kd.R_alloc | apply Kd.R_drewN | apply Kd.R_drew)); exact Kd.R_mono HO115.out (fun _ hk => hk.2)⟩, ⟨by (with_reducible repeat (first | apply Kd.R_alloc | apply Kd.R_drewN | apply Kd.R_drew)); exact Kd.R_mono HO118.out (fun _ hk => hk.2)⟩, ⟨by repeat (first | (with_reducible first | exact HB.out | apply below_alloc | apply pw_below_drewN | apply below_drew1) | exact HB.out)⟩⟩
  case round =>
    clear H'
    try clear p2
    try clear c4
    obtain ⟨x7_1, x8_1, rfl, rfl, HA, HK1, HO_5, HO_6, HB⟩ := hrel
    cases gk with
    | zero => exact absurd HA.out (by simp [colonnadelaw07_CursorShort.l0])
    | succ k1 =>
      have H := HA.out
      clear HA
      simp only [colonnadelaw07_CursorShort.l0] at H
      by_cases c7 : x8_1 > 0
      · rw [if_pos c7] at H
        have c7b0 : decide (0 < x8_1) = true := decide_eq_true c7
        clear c7
        have H' := Aside0.mk H
        clear H
        go_wp2
        repeat (go_quiet (fail); try go_wp2)
        go_roundg k1
        case measure => have := HK1.out; omega
        case rel => exact ⟨(wrap64 (x7_1 + 1)), (x8_1 / 128), (by first | rfl | (simp; done) | (simp [*]; done)), (by first | rfl | (simp; done) | (simp [*]; done)), H', ⟨by have := HK1.out; omega⟩, ⟨by (with_reducible repeat (first | apply Kd.R_alloc | apply Kd.R_drewN | apply Kd.R_drew)); exact HO_5.out⟩, ⟨by (with_reducible repeat (first | apply Kd.R_alloc | apply Kd.R_drewN | apply Kd.R_drew)); exact HO_6.out⟩, ⟨by repeat (first | (with_reducible first | exact HB.out | apply below_alloc | apply pw_below_drewN | apply below_drew1) | exact HB.out)⟩⟩
      · rw [if_neg c7] at H
        have c7b0 : decide (0 < x8_1) = false := decide_eq_false c7
        clear c7
        have HC8 := Aside0.mk H
        clear H
        go_upto_region 8 with (fail)
        repeat (go_quiet (fail); go_upto_region 8 with (fail))
        go_cut [32] (fun v32 wc => ∃ (kq : Nat) (x32_7 : Bool), v32 = .bool x32_7 ∧ Aside0 (colonnadelaw07_CursorShort.j1 kq a0 a1 t113 t116 x32_7 = some r) ∧ Aside0 (kq ≤ k1) ∧ Aside0 (Kd.R (Kd.int .u8) 5 wc w.heap.size (fun k_ => some k_ ≠ (v117 : Value).ownBlock) v114 t113) ∧ Aside0 (Kd.R (Kd.int .u8) 5 wc w.heap.size (fun k_ => some k_ ≠ (v114 : Value).ownBlock) v117 t116) ∧ Aside0 (Below w.heap.size w wc))
        case first =>
          have H := HC8.out
          clear HC8
          by_cases c9 : (t113.length : Int) = x7_1
          · rw [if_pos c9] at H
            have c9b0 : ((t113.length : Int) == x7_1) = true := beq_iff_eq.mpr c9
            have c9b1 : ((t113.length : Int) != x7_1) = false := bne_eq_false_iff_eq.mpr c9
            clear c9
            (first | rw [c9b0] | (simp only [i64_w, i32_w]; rw [c9b0]) | skip)
            have H' := Aside0.mk H
            clear H
            obtain ⟨Ao10, co10, eo10⟩ := Kd.R_slice HO_5.out
            subst eo10
            obtain ⟨Ao11, co11, eo11⟩ := Kd.R_slice HO_6.out
            subst eo11
            go_wp2
            repeat (go_quiet (fail); try go_wp2)
            go_meet
            case rel => exact ⟨_, (((t116.length : Int) == 0)), (by first | rfl | (simp; done) | (simp [*]; done)), H', ⟨by have := HK1.out; first | omega | exact Nat.le_refl _⟩, ⟨by (with_reducible repeat (first | apply Kd.R_alloc | apply Kd.R_drewN | apply Kd.R_drew)); exact HO_5.out⟩, ⟨by (with_reducible repeat (first | apply Kd.R_alloc | apply Kd.R_drewN | apply Kd.R_drew)); exact HO_6.out⟩, ⟨by repeat (first | (with_reducible first | exact HB.out | apply below_alloc | apply pw_below_drewN | apply below_drew1) | exact HB.out)⟩⟩
          · rw [if_neg c9] at H
            have c9b0 : ((t113.length : Int) == x7_1) = false := beq_eq_false_iff_ne.mpr c9
            have c9b1 : ((t113.length : Int) != x7_1) = true := bne_iff_ne.mpr c9
            (first | rw [c9b0] | (simp only [i64_w, i32_w]; rw [c9b0]) | skip)
            have H' := Aside0.mk H
            clear H
            obtain ⟨Ao12, co12, eo12⟩ := Kd.R_slice HO_5.out
            subst eo12
            go_wp2
            repeat (go_quiet (fail); try go_wp2)
            go_meet
            case rel => exact ⟨_, (true), (by first | rfl | (simp; done) | (simp [*]; done)), H', ⟨by have := HK1.out; first | omega | exact Nat.le_refl _⟩, ⟨by (with_reducible repeat (first | apply Kd.R_alloc | apply Kd.R_drewN | apply Kd.R_drew)); exact HO_5.out⟩, ⟨by (with_reducible repeat (first | apply Kd.R_alloc | apply Kd.R_drewN | apply Kd.R_drew)); exact HO_6.out⟩, ⟨by repeat (first | (with_reducible first | exact HB.out | apply below_alloc | apply pw_below_drewN | apply below_drew1) | exact HB.out)⟩⟩
        case rest =>
          clear HC8
          try clear p2
          try clear c4
          try clear p6
          try clear c7
          try clear c7b0
          try clear c9
          try clear c9b0
          try clear c9b1
          try clear p2
          obtain ⟨kq, x32_7, rfl, HA, HJ7, HO_5, HO_6, HB⟩ := hcut
          cases kq with
          | zero => exact absurd HA.out (by simp [colonnadelaw07_CursorShort.j1])
          | succ kj7 =>
            have H := HA.out
            clear HA
            simp only [colonnadelaw07_CursorShort.j1] at H
            by_cases c13 : x32_7 = true
            · subst c13
              have H1 : (some false) = some r := by rw [if_pos rfl] at H; exact H
              clear H
              have H := H1
              clear H1
              obtain rfl := Option.some.inj H
              go_wp2
              repeat (go_quiet (fail); try go_wp2)
              go_ret
              exact ⟨by first | rfl | (simp [errW_none, errW_some] <;> rfl) | (simp [*, errW_none, errW_some] <;> rfl), by repeat (first | (with_reducible first | exact HB.out | apply below_alloc | apply pw_below_drewN | apply below_drew1) | exact HB.out)⟩
            · replace c13 := Bool.eq_false_iff.mpr c13
              subst c13
              have H1 : (colonnadelaw07_CursorShort.l1 kj7 a0 a1 t113 t116 0 0) = some r := by rw [if_neg (show ¬ (false = true) by decide)] at H; exact H
              clear H
              have H := H1
              clear H1
              have H' := Aside0.mk H
              clear H
              go_wp2
              repeat (go_quiet (fail); try go_wp2)
              go_loopg [9, 10] kj7 (fun kq v9 v10 w' => ∃ (x9_3 : Int) (x10_3 : Int), v9 = .int .u64 x9_3 ∧ v10 = .int .i64 x10_3 ∧ Aside0 (colonnadelaw07_CursorShort.l1 kq a0 a1 t113 t116 x9_3 x10_3 = some r) ∧ Aside0 (kq ≤ kj7) ∧ Aside0 (Kd.R (Kd.int .u8) 5 w' w.heap.size (fun k_ => some k_ ≠ (v117 : Value).ownBlock) v114 t113) ∧ Aside0 (Kd.R (Kd.int .u8) 5 w' w.heap.size (fun k_ => some k_ ≠ (v114 : Value).ownBlock) v117 t116) ∧ Aside0 (Below w.heap.size w w'))
              case atStart => exact ⟨(0), (0), (by first | rfl | (simp; done) | (simp [*]; done)), (by first | rfl | (simp; done) | (simp [*]; done)), H', ⟨Nat.le_refl _⟩, ⟨by (with_reducible repeat (first | apply Kd.R_alloc | apply Kd.R_drewN | apply Kd.R_drew)); exact HO_5.out⟩, ⟨by (with_reducible repeat (first | apply Kd.R_alloc | apply Kd.R_drewN | apply Kd.R_drew)); exact HO_6.out⟩, ⟨by repeat (first | (with_reducible first | exact HB.out | apply below_alloc | apply pw_below_drewN | apply below_drew1) | exact HB.out)⟩⟩
              case round =>
                clear H'
                try clear c1
                try clear p2
                try clear c4
                try clear p6
                try clear c7
                try clear c7b0
                try clear c9
                try clear c9b0
                try clear c9b1
                try clear c13
                try clear p2
                try clear p6
                obtain ⟨x9_3, x10_3, rfl, rfl, HA, HK3, HO_5, HO_6, HB⟩ := hrel
                cases gk with
                | zero => exact absurd HA.out (by simp [colonnadelaw07_CursorShort.l1])
                | succ k3 =>
                  have H := HA.out
                  clear HA
                  simp only [colonnadelaw07_CursorShort.l1] at H
                  by_cases c14 : x10_3 < (t113.length : Int)
                  · rw [if_pos c14] at H
                    have c14b0 : decide (x10_3 < (t113.length : Int)) = true := decide_eq_true c14
                    clear c14
                    by_cases c15 : 0 ≤ x10_3
                    · rw [if_pos c15] at H
                      have c15b0 : decide (0 ≤ x10_3) = true := decide_eq_true c15
                      clear c15
                      obtain ⟨ji16, hji16⟩ : ∃ j_ : Int, (IntKind.u64.wrap (wrap64 (7 * x10_3))) = j_ := ⟨_, rfl⟩
                      replace H : (if 0 ≤ (ji16) then (if ((decide ((rd t113 x10_3) ≥ 128)) != (decide ((wrap64 (x10_3 + 1)) < (t113.length : Int)))) = true then (some false) else (colonnadelaw07_CursorShort.l1 k3 a0 a1 t113 t116 (IntKind.u64.wrap (x9_3 + (shl .u64 (IntKind.u64.wrap (Int.tmod (rd t113 x10_3) 128)) (ji16)))) (wrap64 (x10_3 + 1)))) else (none)) = some r := by first | (rw [hji16] at H; exact H) | (simp only [hji16] at H ⊢; exact H)
                      by_cases c17 : 0 ≤ (ji16)
                      · rw [if_pos c17] at H
                        have c17b0 := eq_true c17
                        have c17b1 : decide (0 ≤ (ji16)) = true := decide_eq_true c17
                        clear c17
                        obtain ⟨ji18, hji18⟩ : ∃ j_ : Int, (shl .u64 (IntKind.u64.wrap (Int.tmod (rd t113 x10_3) 128)) (ji16)) = j_ := ⟨_, rfl⟩
                        replace H : (if ((decide ((rd t113 x10_3) ≥ 128)) != (decide ((wrap64 (x10_3 + 1)) < (t113.length : Int)))) = true then (some false) else (colonnadelaw07_CursorShort.l1 k3 a0 a1 t113 t116 (IntKind.u64.wrap (x9_3 + (ji18))) (wrap64 (x10_3 + 1)))) = some r := by first | (rw [hji18] at H; exact H) | (simp only [hji18] at H ⊢; exact H)
                        have hji18_ : (IntKind.u64.wrap ((IntKind.u64.wrap (Int.tmod (rd t113 x10_3) 128)) * 2 ^ min (ji16).toNat 64)) = ji18 := hji18
                        have hji18z : (ji16) ≤ 64 → (IntKind.u64.wrap ((IntKind.u64.wrap (Int.tmod (rd t113 x10_3) 128)) * 2 ^ (ji16).toNat)) = ji18 := shl_small hji18
                        by_cases c19 : ((decide ((rd t113 x10_3) ≥ 128)) != (decide ((wrap64 (x10_3 + 1)) < (t113.length : Int)))) = true
                        · rw [if_pos c19] at H
                          have c19b0 : ((decide ((rd t113 x10_3) ≥ 128)) != (decide ((wrap64 (x10_3 + 1)) < (t113.length : Int)))) = true := c19
                          (try (have c19b1 : decide ((decide ((rd t113 x10_3) ≥ 128)) = (decide ((wrap64 (x10_3 + 1)) < (t113.length : Int)))) = false := by simpa using c19))
                          (try (have c19b2 : ((decide ((rd t113 x10_3) ≥ 128)) == (decide ((wrap64 (x10_3 + 1)) < (t113.length : Int)))) = false := by simpa using c19))
                          (try (have c19b3 : ¬ ((decide ((rd t113 x10_3) ≥ 128)) = (decide ((wrap64 (x10_3 + 1)) < (t113.length : Int)))) := by simpa using c19))
                          clear c19
                          obtain rfl := Option.some.inj H
                          obtain ⟨Ao20, co20, eo20⟩ := Kd.R_slice HO_5.out
                          subst eo20
                          have p119 : 0 ≤ (x10_3 : Int) := of_decide_eq_true (by first | (with_reducible assumption) | assumption)
                          have q119 : x10_3 < (t113.length : Int) := of_decide_eq_true (by first | (with_reducible assumption) | assumption)
                          obtain ⟨ad119, e119, hx119_0⟩ := Kd.at_int (Kd.R_reads' HO_5.out).2.2 x10_3 p119 q119
                          cases e119
                          replace p119 := eq_true p119
                          replace q119 := eq_true q119
                          have p120 : 0 ≤ (x10_3 : Int) := of_decide_eq_true (by first | (with_reducible assumption) | assumption)
                          have q120 : x10_3 < (t113.length : Int) := of_decide_eq_true (by first | (with_reducible assumption) | assumption)
                          obtain ⟨ad120, e120, hx120_0⟩ := Kd.at_int (Kd.R_reads' HO_5.out).2.2 x10_3 p120 q120
                          obtain rfl : ad119 = ad120 := (by injection e120)
                          replace p120 := eq_true p120
                          replace q120 := eq_true q120
                          go_wp2
                          repeat (go_quiet (fail); try go_wp2)
                          go_ret
                          exact ⟨by first | rfl | (simp [errW_none, errW_some] <;> rfl) | (simp only [← hji16, ← hji18]; first | rfl | (simp [errW_none, errW_some] <;> rfl)) | (simp [*, errW_none, errW_some] <;> rfl), by repeat (first | (with_reducible first | exact HB.out | apply below_alloc | apply pw_below_drewN | apply below_drew1) | exact HB.out)⟩
                        · rw [if_neg c19] at H
                          have c19b0 : ((decide ((rd t113 x10_3) ≥ 128)) != (decide ((wrap64 (x10_3 + 1)) < (t113.length : Int)))) = false := by simpa using c19
                          (try (have c19b1 : decide ((decide ((rd t113 x10_3) ≥ 128)) = (decide ((wrap64 (x10_3 + 1)) < (t113.length : Int)))) = true := by simpa using c19))
                          (try (have c19b2 : ((decide ((rd t113 x10_3) ≥ 128)) == (decide ((wrap64 (x10_3 + 1)) < (t113.length : Int)))) = true := by simpa using c19))
                          clear c19
                          have H' := Aside0.mk H
                          clear H
                          obtain ⟨Ao21, co21, eo21⟩ := Kd.R_slice HO_5.out
                          subst eo21
                          have p119 : 0 ≤ (x10_3 : Int) := of_decide_eq_true (by first | (with_reducible assumption) | assumption)
                          have q119 : x10_3 < (t113.length : Int) := of_decide_eq_true (by first | (with_reducible assumption) | assumption)
                          obtain ⟨ad119, e119, hx119_0⟩ := Kd.at_int (Kd.R_reads' HO_5.out).2.2 x10_3 p119 q119
                          cases e119
                          replace p119 := eq_true p119
                          replace q119 := eq_true q119
                          have p120 : 0 ≤ (x10_3 : Int) := of_decide_eq_true (by first | (with_reducible assumption) | assumption)
                          have q120 : x10_3 < (t113.length : Int) := of_decide_eq_true (by first | (with_reducible assumption) | assumption)
                          obtain ⟨ad120, e120, hx120_0⟩ := Kd.at_int (Kd.R_reads' HO_5.out).2.2 x10_3 p120 q120
                          obtain rfl : ad119 = ad120 := (by injection e120)
                          replace p120 := eq_true p120
                          replace q120 := eq_true q120
                          go_wp2
                          repeat (go_quiet (fail); try go_wp2)
                          go_roundg k3
                          case measure => have := HK1.out; have := HJ7.out; have := HK3.out; omega
                          case rel => exact ⟨(IntKind.u64.wrap (x9_3 + (ji18))), (wrap64 (x10_3 + 1)), (by first | rfl | (simp; done) | (simp only [← hji18] <;> (first | rfl | simp)) | (simp [*]; done)), (by first | rfl | (simp; done) | (simp [*]; done)), H', ⟨by have := HK1.out; have := HJ7.out; have := HK3.out; omega⟩, ⟨by (with_reducible repeat (first | apply Kd.R_alloc | apply Kd.R_drewN | apply Kd.R_drew)); exact HO_5.out⟩, ⟨by (with_reducible repeat (first | apply Kd.R_alloc | apply Kd.R_drewN | apply Kd.R_drew)); exact HO_6.out⟩, ⟨by repeat (first | (with_reducible first | exact HB.out | apply below_alloc | apply pw_below_drewN | apply below_drew1) | exact HB.out)⟩⟩
                      · rw [if_neg c17] at H
                        exact absurd H (by simp)
                    · rw [if_neg c15] at H
                      exact absurd H (by simp)
                  · rw [if_neg c14] at H
                    have c14b0 : decide (x10_3 < (t113.length : Int)) = false := decide_eq_false c14
                    clear c14
                    obtain ⟨ji22, hji22⟩ : ∃ j_ : Int, (mn (t113.length : Int) (t116.length : Int)) = j_ := ⟨_, rfl⟩
                    replace H : (if x9_3 = a0 then (if 0 ≤ (ji22) then (if (ji22) ≤ (t113.length : Int) then (if (ji22) ≤ (t116.length : Int) then (some (((strOfNums (t113.take ((ji22) : Int).toNat)).toList == (strOfNums (t116.take ((ji22) : Int).toNat)).toList) == (a0 == a1))) else (none)) else (none)) else (none)) else (some false)) = some r := by first | (rw [hji22] at H; exact H) | (simp only [hji22] at H ⊢; exact H)
                    have hji22_ : (if (t116.length : Int) < (t113.length : Int) then (t116.length : Int) else (t113.length : Int)) = ji22 := hji22
                    (try have hji22_n : (if t116.length < t113.length then (t116.length : Int) else (t113.length : Int)) = ji22 := by (have z_ := hji22_; simp only [Int.ofNat_lt] at z_; exact z_))
                    by_cases c23 : x9_3 = a0
                    · rw [if_pos c23] at H
                      have c23b0 : (x9_3 == a0) = true := beq_iff_eq.mpr c23
                      have c23b1 : (x9_3 != a0) = false := bne_eq_false_iff_eq.mpr c23
                      clear c23
                      by_cases c24 : 0 ≤ (ji22)
                      · rw [if_pos c24] at H
                        have c24b0 := eq_true c24
                        have c24b1 : decide (0 ≤ (ji22)) = true := decide_eq_true c24
                        clear c24
                        by_cases c25 : (ji22) ≤ (t113.length : Int)
                        · rw [if_pos c25] at H
                          have c25b0 := eq_true c25
                          have c25b1 : decide ((ji22) ≤ (t113.length : Int)) = true := decide_eq_true c25
                          clear c25
                          obtain ⟨y121, hy121⟩ : ∃ y_ : List Int, y_ = (t113.take ((ji22) : Int).toNat) := ⟨_, rfl⟩
                          replace H : (if (ji22) ≤ (t116.length : Int) then (some (((strOfNums y121).toList == (strOfNums (t116.take ((ji22) : Int).toNat)).toList) == (a0 == a1))) else (none)) = some r := by first | (rw [hy121]; with_reducible exact H) | (have H2_ := (Option.bind_some _ _).symm.trans H; rw [hy121]; with_reducible exact H2_) | (have H2_ := (Option.bind_some _ _).symm.trans H; with_reducible exact H2_) | with_reducible exact H | (rw [hy121]; exact H) | exact H
                          have Ny121 := Aside0.mk hy121
                          clear hy121
                          have c26b0 := eq_true (of_decide_eq_true (by first | (with_reducible assumption) | assumption) : 0 ≤ (ji22))
                          by_cases c27 : (ji22) ≤ (t116.length : Int)
                          · rw [if_pos c27] at H
                            have c27b0 := eq_true c27
                            have c27b1 : decide ((ji22) ≤ (t116.length : Int)) = true := decide_eq_true c27
                            clear c27
                            obtain ⟨y125, hy125⟩ : ∃ y_ : List Int, y_ = (t116.take ((ji22) : Int).toNat) := ⟨_, rfl⟩
                            replace H : (some (((strOfNums y121).toList == (strOfNums y125).toList) == (a0 == a1))) = some r := by first | (rw [hy125]; with_reducible exact H) | (have H2_ := (Option.bind_some _ _).symm.trans H; rw [hy125]; with_reducible exact H2_) | (have H2_ := (Option.bind_some _ _).symm.trans H; with_reducible exact H2_) | with_reducible exact H | (rw [hy125]; exact H) | exact H
                            have Ny125 := Aside0.mk hy125
                            clear hy125
                            obtain rfl := Option.some.inj H
                            obtain ⟨Ao28, co28, eo28⟩ := Kd.R_slice HO_5.out
                            subst eo28
                            obtain ⟨Ao29, co29, eo29⟩ := Kd.R_slice HO_6.out
                            subst eo29
                            have q30 : ((ji22) : Int) ≤ ((t113.length : Int) : Int) := of_decide_eq_true (by first | (with_reducible assumption) | assumption)
                            obtain ⟨i030, hi030, _, hsz30, _⟩ := info_parts info5
                            have hroom30 : t113.length ≤ co28 := (Kd.R_reads' HO_5.out).2.1
                            have hC30 : Kd.C (Kd.int .u8) _ Ao28 t113.length t113 := (Kd.R_reads' HO_5.out).2.2
                            have hcut30 := cut_to (P := Try.prog) 24 5 .i64 Try.underlying24 hi030 Ao28 t113.length co28 (ji22) (of_decide_eq_true (by first | (with_reducible assumption) | assumption)) q30 hroom30
                            have hr30 := Kd.C_take (m := ((ji22) : Int).toNat) hC30 (by omega)
                            have hy30 : y121.length = ((ji22) : Int).toNat := (by rw [Ny121.out, List.length_take]; omega)
                            rw [← Ny121.out] at hr30
                            rw [← hy30] at hcut30
                            have HR124 := Aside0.mk hr30
                            have HC124 := Aside0.mk (show y121.length ≤ co28 from by omega)
                            clear hr30 hC30 hroom30 hi030 hsz30
                            have KY30 := Aside0.mk hy30
                            clear hy30
                            have KL30 := Aside0.mk (show ((ji22) : Int).toNat ≤ t113.length from by omega)
                            replace q30 := eq_true q30
                            have hcv31 := Kd.C_string (P := Try.prog) (A := Ao28) (c := co28) Try.underlying24 Try.underlying5 Try.underlying9 (by repeat (first | (with_reducible exact HR124.out) | (with_reducible refine Kd.C_alloc ?_ _) | (with_reducible refine Kd.C_drewN ?_ _) | (with_reducible refine Kd.C_drew ?_) | exact HR124.out))
                            (try have hcv31_d := fun (n_ : Nat) => Kd.C_string (P := Try.prog) (A := Ao28) (c := co28) Try.underlying24 Try.underlying5 Try.underlying9 (Kd.C_drewN HR124.out n_))
                            have q32 : ((ji22) : Int) ≤ ((t116.length : Int) : Int) := of_decide_eq_true (by first | (with_reducible assumption) | assumption)
                            obtain ⟨i032, hi032, _, hsz32, _⟩ := info_parts info5
                            have hroom32 : t116.length ≤ co29 := (Kd.R_reads' HO_6.out).2.1
                            have hC32 : Kd.C (Kd.int .u8) _ Ao29 t116.length t116 := (Kd.R_reads' HO_6.out).2.2
                            have hcut32 := cut_to (P := Try.prog) 24 5 .i64 Try.underlying24 hi032 Ao29 t116.length co29 (ji22) (of_decide_eq_true (by first | (with_reducible assumption) | assumption)) q32 hroom32
                            have hr32 := Kd.C_take (m := ((ji22) : Int).toNat) hC32 (by omega)
                            have hy32 : y125.length = ((ji22) : Int).toNat := (by rw [Ny125.out, List.length_take]; omega)
                            rw [← Ny125.out] at hr32
                            rw [← hy32] at hcut32
                            have HR128 := Aside0.mk hr32
                            have HC128 := Aside0.mk (show y125.length ≤ co29 from by omega)
                            clear hr32 hC32 hroom32 hi032 hsz32
                            have KY32 := Aside0.mk hy32
                            clear hy32
                            have KL32 := Aside0.mk (show ((ji22) : Int).toNat ≤ t116.length from by omega)
                            replace q32 := eq_true q32
                            have hcv33 := Kd.C_string (P := Try.prog) (A := Ao29) (c := co29) Try.underlying24 Try.underlying5 Try.underlying9 (by repeat (first | (with_reducible exact HR128.out) | (with_reducible refine Kd.C_alloc ?_ _) | (with_reducible refine Kd.C_drewN ?_ _) | (with_reducible refine Kd.C_drew ?_) | exact HR128.out))
                            (try have hcv33_d := fun (n_ : Nat) => Kd.C_string (P := Try.prog) (A := Ao29) (c := co29) Try.underlying24 Try.underlying5 Try.underlying9 (Kd.C_drewN HR128.out n_))
                            go_wp2
                            repeat (go_quiet (fail); try go_wp2)
                            go_ret
                            exact ⟨by first | rfl | (simp [errW_none, errW_some] <;> rfl) | (simp only [← hji22]; first | rfl | (simp [errW_none, errW_some] <;> rfl)) | (simp [*, errW_none, errW_some] <;> rfl), by repeat (first | (with_reducible first | exact HB.out | apply below_alloc | apply pw_below_drewN | apply below_drew1) | exact HB.out)⟩
                          · rw [if_neg c27] at H
                            exact absurd H (by simp)
                        · rw [if_neg c25] at H
                          exact absurd H (by simp)
                      · rw [if_neg c24] at H
                        exact absurd H (by simp)
                    · rw [if_neg c23] at H
                      have c23b0 : (x9_3 == a0) = false := beq_eq_false_iff_ne.mpr c23
                      have c23b1 : (x9_3 != a0) = true := bne_iff_ne.mpr c23
                      obtain rfl := Option.some.inj H
                      obtain ⟨Ao34, co34, eo34⟩ := Kd.R_slice HO_5.out
                      subst eo34
                      obtain ⟨Ao35, co35, eo35⟩ := Kd.R_slice HO_6.out
                      subst eo35
                      go_wp2
                      repeat (go_quiet (fail); try go_wp2)
                      go_ret
                      exact ⟨by first | rfl | (simp [errW_none, errW_some] <;> rfl) | (simp only [← hji22]; first | rfl | (simp [errW_none, errW_some] <;> rfl)) | (simp [*, errW_none, errW_some] <;> rfl), by repeat (first | (with_reducible first | exact HB.out | apply below_alloc | apply pw_below_drewN | apply below_drew1) | exact HB.out)⟩

/-- THE ONE PURE STATEMENT of colonnadelaw07_CursorShort: yours. -/
def colonnadelaw07_CursorShort.Pure : Prop := ∀ (a0 : Int) (a1 : Int), (Lit.int .u64 a0).wf = true → (Lit.int .u64 a1).wf = true → ∃ k, colonnadelaw07_CursorShort.f k a0 a1 = some true
theorem colonnadelaw07_CursorShort.walk (P : colonnadelaw07_CursorShort.Pure) (a0 : Int) (a1 : Int) (w : World) (w0 : (Lit.int .u64 a0).wf = true) (w1 : (Lit.int .u64 a1).wf = true) :
    Calls Try.prog 4 #[.int .u64 a0, .int .u64 a1] w fun e w' => e = .returned (.bool true) ∧ Below w.heap.size w w' := by
  obtain ⟨k, h⟩ := P a0 a1 w0 w1
  refine (colonnadelaw07_CursorShort.calls k a0 a1 true w h).mono ?_
  rintro e w' ⟨rfl, hd⟩
  exact ⟨rfl, hd⟩

end Go.Proofs.Ythpoomdillhcbaa.Pa
