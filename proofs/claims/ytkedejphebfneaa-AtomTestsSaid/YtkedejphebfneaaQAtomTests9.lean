/- The texts of AtomTests, merged: part 9. -/
import Derived.Test.YtkedejphebfneaaQAtomTests2
import Derived.Test.YtkedejphebfneaaQAtomTests8
import Derived.Test.YtkedejphebfneaaQAtomTests6
import Derived.Test.YtkedejphebfneaaQAtomTests4
import Derived.Laws.Pointers
import Derived.WalkLawsBesides
import Derived.Handy
import Derived.Deep.RegionWith
section
-- Written by xprint.py, a program of this session, over the kit's print. Not trusted: Lean checks it.
namespace Go.Proofs.Ytkedejphebfneaa.Pa
open Go.RowKit Go.Proofs.YtkedejphebfneaaW.PrintWords Go.Proofs.YtkedejphebfneaaW.PrintLast Go.Proofs.YtkedejphebfneaaW.PrintMore
attribute [local go_sem] max2_int min2_int max_two min_two max_three min_three max_four min_four   -- for this text's walks alone
attribute [local go_sem] run_store_float cmp_feq cmp_fne cmp_flt cmp_fle cmp_fgt cmp_fge un_fneg equalIn_feq run_fop run_fint run_freal cmp_sgt ext_bits ext_frombits ext_cmpb
set_option linter.unusedVariables false
set_option linter.unusedSimpArgs false

/-! ### colonnaderef18_Test: function 19 -/
def colonnaderef18_Test.j0 : Nat → Bool → Int → ByteArray → Int → Int → Int → Nat → ByteArray → List (S28) → List (S32) → Int → Int → Nat → ByteArray → Option (Int)
  | 0, _, _, _, _, _, _, _, _, _, _, _, _, _, _ => none
  | k + 1, x17, x279000, x279001, x279002, x279003, x279004, x279005, x279006, x279007, x279008, x280000, x280001, x280002, x280003 => if x17 = true then (some 0) else (if x280000 = 0 then (if x279000 = 4 then (some 1) else (some 2)) else ((colonnaderef18_says.f k x279000 x279001 x279002 x279003 x279004 x279005 x279006 x279007 x279008 x280000 x280001 x280002 x280003).bind fun t281 => (if t281 = true then (some 1) else (some 0))))
def colonnaderef18_Test.f (k : Nat) (a0_0 : Int) (a0_1 : ByteArray) (a0_2 : Int) (a0_3 : Int) (a0_4 : Int) (a0_5 : Nat) (a0_6 : ByteArray) (l0_7 : List (S28)) (l0_8 : List (S32)) (a1_0 : Int) (a1_1 : Int) (a1_2 : Nat) (a1_3 : ByteArray) : Option (Int) := if a0_0 < 1 then (colonnaderef18_Test.j0 k true a0_0 a0_1 a0_2 a0_3 a0_4 a0_5 a0_6 l0_7 l0_8 a1_0 a1_1 a1_2 a1_3) else (if a0_0 > 5 then (colonnaderef18_Test.j0 k true a0_0 a0_1 a0_2 a0_3 a0_4 a0_5 a0_6 l0_7 l0_8 a1_0 a1_1 a1_2 a1_3) else ((colonnaderef18_May.f a1_0 a1_1 a1_2 a1_3).bind fun t280 => (colonnaderef18_Test.j0 k (!t280) a0_0 a0_1 a0_2 a0_3 a0_4 a0_5 a0_6 l0_7 l0_8 a1_0 a1_1 a1_2 a1_3)))
theorem colonnaderef18_Test.mono_l : ∀ k, (∀ y0 y1 y2 y3 y4 y5 y6 y7 y8 y9 y10 y11 y12 y13, LeO (colonnaderef18_Test.j0 k y0 y1 y2 y3 y4 y5 y6 y7 y8 y9 y10 y11 y12 y13) (colonnaderef18_Test.j0 (k + 1) y0 y1 y2 y3 y4 y5 y6 y7 y8 y9 y10 y11 y12 y13))
  | 0 => fun _ _ _ _ _ _ _ _ _ _ _ _ _ _ r h => by simp [colonnaderef18_Test.j0] at h
  | k + 1 => by
    have ih0 := colonnaderef18_Test.mono_l k
    · intro y0 y1 y2 y3 y4 y5 y6 y7 y8 y9 y10 y11 y12 y13
      unfold colonnaderef18_Test.j0
      repeat' first
      | (with_reducible exact ih0 _ _ _ _ _ _ _ _ _ _ _ _ _ _)
      | (with_reducible exact colonnaderef18_says.mono _ _ _ _ _ _ _ _ _ _ _ _ _ _)
      | (with_reducible exact LeO.refl _)
      | (with_reducible exact LeO.none _)
      | (with_reducible refine LeO.ite ?_ ?_)
      | (with_reducible refine LeO.bind ?_ (fun _ => ?_))
      | exact ih0 _ _ _ _ _ _ _ _ _ _ _ _ _ _
      | exact colonnaderef18_says.mono _ _ _ _ _ _ _ _ _ _ _ _ _ _
      | exact LeO.none _
      | refine LeO.ite ?_ ?_
      | refine LeO.bind ?_ (fun _ => ?_)
theorem colonnaderef18_Test.mono : ∀ a0 a1 a2 a3 a4 a5 a6 a7 a8 a9 a10 a11 a12 k, LeO (colonnaderef18_Test.f k a0 a1 a2 a3 a4 a5 a6 a7 a8 a9 a10 a11 a12) (colonnaderef18_Test.f (k + 1) a0 a1 a2 a3 a4 a5 a6 a7 a8 a9 a10 a11 a12) := by
  intro a0 a1 a2 a3 a4 a5 a6 a7 a8 a9 a10 a11 a12 k
  have ih0 := colonnaderef18_Test.mono_l k
  unfold colonnaderef18_Test.f
  repeat' first
      | (with_reducible exact ih0 _ _ _ _ _ _ _ _ _ _ _ _ _ _)
      | (with_reducible exact colonnaderef18_says.mono _ _ _ _ _ _ _ _ _ _ _ _ _ _)
      | (with_reducible exact LeO.refl _)
      | (with_reducible exact LeO.none _)
      | (with_reducible refine LeO.ite ?_ ?_)
      | (with_reducible refine LeO.bind ?_ (fun _ => ?_))
      | exact ih0 _ _ _ _ _ _ _ _ _ _ _ _ _ _
      | exact colonnaderef18_says.mono _ _ _ _ _ _ _ _ _ _ _ _ _ _
      | exact LeO.none _
      | refine LeO.ite ?_ ?_
      | refine LeO.bind ?_ (fun _ => ?_)
set_option maxHeartbeats 8000000 in
set_option maxRecDepth 100000 in
theorem colonnaderef18_Test.calls (k : Nat) (a0_0 : Int) (a0_1 : ByteArray) (a0_2 : Int) (a0_3 : Int) (a0_4 : Int) (a0_5 : Nat) (a0_6 : ByteArray) (A0_7 : Option Addr) (c0_7 : Nat) (l0_7 : List (S28)) (A0_8 : Option Addr) (c0_8 : Nat) (l0_8 : List (S32)) (a1_0 : Int) (a1_1 : Int) (a1_2 : Nat) (a1_3 : ByteArray) (r : Int) (w : World) (hr0_7 : Kd.C k28 w A0_7 l0_7.length l0_7) (hc0_7 : l0_7.length ≤ c0_7) (hr0_8 : Kd.C k32 w A0_8 l0_8.length l0_8) (hc0_8 : l0_8.length ≤ c0_8) (h : colonnaderef18_Test.f k a0_0 a0_1 a0_2 a0_3 a0_4 a0_5 a0_6 l0_7 l0_8 a1_0 a1_1 a1_2 a1_3 = some r) :
    Calls Try.prog 19 #[.agg #[.int .i64 a0_0, .string a0_1, .int .i64 a0_2, .int .i64 a0_3, .int .i64 a0_4, .float .f64 a0_5, .string a0_6, .slice A0_7 l0_7.length c0_7, .slice A0_8 l0_8.length c0_8], .agg #[.int .i64 a1_0, .int .i64 a1_1, .float .f64 a1_2, .string a1_3]] w fun e w' => e = .returned (.int .i8 r) ∧ Below w.heap.size w w' := by
  have hu32 := Try.underlying32
  have hu28 := Try.underlying28
  have HR0_7 := Aside0.mk hr0_7
  have HC0_7 := Aside0.mk hc0_7
  clear hr0_7 hc0_7
  have HR0_8 := Aside0.mk hr0_8
  have HC0_8 := Aside0.mk hc0_8
  clear hr0_8 hc0_8
  have HB := Aside0.mk (Below.refl w.heap.size w)
  have H : (if a0_0 < 1 then (colonnaderef18_Test.j0 k true a0_0 a0_1 a0_2 a0_3 a0_4 a0_5 a0_6 l0_7 l0_8 a1_0 a1_1 a1_2 a1_3) else (if a0_0 > 5 then (colonnaderef18_Test.j0 k true a0_0 a0_1 a0_2 a0_3 a0_4 a0_5 a0_6 l0_7 l0_8 a1_0 a1_1 a1_2 a1_3) else ((colonnaderef18_May.f a1_0 a1_1 a1_2 a1_3).bind fun t280 => (colonnaderef18_Test.j0 k (!t280) a0_0 a0_1 a0_2 a0_3 a0_4 a0_5 a0_6 l0_7 l0_8 a1_0 a1_1 a1_2 a1_3)))) = some r := h
  clear h
  have HC3 := Aside0.mk H
  clear H
  go_enter Try.func19, Try.ntmps19
  go_upto_region 1 with (first | ((with_reducible refine gate_dst (N := 2) rfl ?_); refine box_event ?hg (N := 2) ?hd (cs := #[.int .i64 a0_0, .string a0_1, .int .i64 a0_2, .int .i64 a0_3, .int .i64 a0_4, .float .f64 a0_5, .string a0_6, .slice A0_7 l0_7.length c0_7, .slice A0_8 l0_8.length c0_8]) (t := 32) ?hr ?_; (case hd => rfl); (case hg => rfl); (case hr => first | (go_simp; done) | (go_simp; rfl)); intro gb278 hg w4 hbox hb; have n0_ := Aside0.mk (below_step (by repeat (first | (with_reducible first | exact HB.out | apply below_alloc | apply pw_below_drewN | apply below_drew1) | exact HB.out)) hb); have n1_ := Aside0.mk (hbox); have n2_ := Aside0.mk ((by rw [hg]; exact (below_size (by repeat (first | (with_reducible first | exact HB.out | apply below_alloc | apply pw_below_drewN | apply below_drew1) | exact HB.out))) : w.heap.size ≤ gb278)); have n3_ := Aside0.mk ((by rw [hg]; exact (below_size (by repeat (first | (with_reducible first | exact HB.out | apply below_alloc | apply pw_below_drewN | apply below_drew1) | exact HB.out))) : w.heap.size ≤ gb278)); clear HB; have HB := n0_; have BK278 := n1_; have GW278 := n2_; have GE278 := n3_; clear n0_ n1_ n2_ n3_; clear hb hbox hg) | ((with_reducible refine gate_dst (N := 3) rfl ?_); refine box_event ?hg (N := 3) ?hd (cs := #[.int .i64 a1_0, .int .i64 a1_1, .float .f64 a1_2, .string a1_3]) (t := 28) ?hr ?_; (case hd => rfl); (case hg => rfl); (case hr => first | (go_simp; done) | (go_simp; rfl)); intro gb279 hg w5 hbox hb; have n0_ := blkS BK278 hb; have n1_ := Aside0.mk (below_step (by repeat (first | (with_reducible first | exact HB.out | apply below_alloc | apply pw_below_drewN | apply below_drew1 | refine below_set ?_ GE278.out) | exact HB.out)) hb); have n2_ := Aside0.mk (hbox); have n3_ := Aside0.mk ((by rw [hg]; exact (below_size (by repeat (first | (with_reducible first | exact HB.out | apply below_alloc | apply pw_below_drewN | apply below_drew1 | refine below_set ?_ GE278.out) | exact HB.out))) : w.heap.size ≤ gb279)); have n4_ := Aside0.mk ((by rw [hg]; exact (below_size (by repeat (first | (with_reducible first | exact HB.out | apply below_alloc | apply pw_below_drewN | apply below_drew1 | refine below_set ?_ GE278.out) | exact HB.out))) : w.heap.size ≤ gb279)); have n5_ := Aside0.mk ((by rw [hg]; exact Nat.ne_of_lt (blk_lt (g := gb278) (o := .cells #[.int .i64 a0_0, .string a0_1, .int .i64 a0_2, .int .i64 a0_3, .int .i64 a0_4, .float .f64 a0_5, .string a0_6, .slice A0_7 l0_7.length c0_7, .slice A0_8 l0_8.length c0_8] 32 (0, 0)) (by (with_reducible repeat (first | refine blk_drewN ?_ _ | refine blk_drew ?_ | refine blk_alloc ?_ _)); exact BK278.out)) : gb278 ≠ gb279)); have n6_ := Aside0.mk ((by rw [hg]; exact Nat.ne_of_gt (blk_lt (g := gb278) (o := .cells #[.int .i64 a0_0, .string a0_1, .int .i64 a0_2, .int .i64 a0_3, .int .i64 a0_4, .float .f64 a0_5, .string a0_6, .slice A0_7 l0_7.length c0_7, .slice A0_8 l0_8.length c0_8] 32 (0, 0)) (by (with_reducible repeat (first | refine blk_drewN ?_ _ | refine blk_drew ?_ | refine blk_alloc ?_ _)); exact BK278.out)) : gb279 ≠ gb278)); clear BK278; clear HB; have BK278 := n0_; have HB := n1_; have BK279 := n2_; have GW279 := n3_; have GE279 := n4_; have NB278_279 := n5_; have NB279_278 := n6_; clear n0_ n1_ n2_ n3_ n4_ n5_ n6_; clear hb hbox hg))
  (try simp only [Act.put, List.setIfInBounds_toArray, List.set_cons_zero, List.set_cons_succ])
  go_cut [17] (fun v17 wc => ∃ (kq : Nat) (x17_2 : Bool), v17 = .bool x17_2 ∧ Aside0 (colonnaderef18_Test.j0 kq x17_2 a0_0 a0_1 a0_2 a0_3 a0_4 a0_5 a0_6 l0_7 l0_8 a1_0 a1_1 a1_2 a1_3 = some r) ∧ Aside0 (kq ≤ k) ∧ Aside0 (wc.heap[gb278]? = some (.cells #[.int .i64 a0_0, .string a0_1, .int .i64 a0_2, .int .i64 a0_3, .int .i64 a0_4, .float .f64 a0_5, .string a0_6, (.slice A0_7 l0_7.length c0_7), (.slice A0_8 l0_8.length c0_8)] 32 (0, 0))) ∧ Aside0 (wc.heap[gb279]? = some (.cells #[.int .i64 a1_0, .int .i64 a1_1, .float .f64 a1_2, .string a1_3] 28 (0, 0))) ∧ Aside0 (Below w.heap.size w wc))
  case first =>
    have H := HC3.out
    clear HC3
    by_cases c6 : a0_0 < 1
    · rw [if_pos c6] at H
      have c6b0 : decide (a0_0 < 1) = true := decide_eq_true c6
      clear c6
      (first | rw [c6b0] | (simp only [i64_w, i32_w]; rw [c6b0]) | skip)
      have H' := Aside0.mk H
      clear H
      have hnb7 := NB278_279.out
      have hnc7 := NB279_278.out
      obtain ⟨hcz8_0, hcz8_1, hcz8_2, hcz8_3, hcz8_4, hcz8_5, hcz8_6, hcz8_7, hcz8_8⟩ := cells_9 BK278.out
      obtain ⟨hfz8_0, hfz8_1, hfz8_2, hfz8_3, hfz8_4, hfz8_5, hfz8_6, hfz8_7, hfz8_8⟩ := froz_9 BK278.out
      go_wp2
      go_meet
      case rel => exact ⟨_, (true), (by first | rfl | (simp; done) | (simp [*]; done)), H', ⟨by first | omega | exact Nat.le_refl _⟩, ⟨by (with_reducible repeat (first | refine blk_drewN ?_ _ | refine blk_drew ?_ | refine blk_alloc ?_ _)); exact BK278.out⟩, ⟨by (with_reducible repeat (first | refine blk_drewN ?_ _ | refine blk_drew ?_ | refine blk_alloc ?_ _)); exact BK279.out⟩, ⟨by repeat (first | (with_reducible first | exact HB.out | apply below_alloc | apply pw_below_drewN | apply below_drew1 | refine below_set ?_ GE278.out | refine below_set ?_ GE279.out) | exact HB.out)⟩⟩
    · rw [if_neg c6] at H
      have c6b0 : decide (a0_0 < 1) = false := decide_eq_false c6
      clear c6
      (first | rw [c6b0] | (simp only [i64_w, i32_w]; rw [c6b0]) | skip)
      by_cases c9 : a0_0 > 5
      · rw [if_pos c9] at H
        have c9b0 : decide (5 < a0_0) = true := decide_eq_true c9
        clear c9
        have H' := Aside0.mk H
        clear H
        have hnb10 := NB278_279.out
        have hnc10 := NB279_278.out
        obtain ⟨hcz11_0, hcz11_1, hcz11_2, hcz11_3, hcz11_4, hcz11_5, hcz11_6, hcz11_7, hcz11_8⟩ := cells_9 BK278.out
        obtain ⟨hfz11_0, hfz11_1, hfz11_2, hfz11_3, hfz11_4, hfz11_5, hfz11_6, hfz11_7, hfz11_8⟩ := froz_9 BK278.out
        go_wp2
        go_meet
        case rel => exact ⟨_, (true), (by first | rfl | (simp; done) | (simp [*]; done)), H', ⟨by first | omega | exact Nat.le_refl _⟩, ⟨by (with_reducible repeat (first | refine blk_drewN ?_ _ | refine blk_drew ?_ | refine blk_alloc ?_ _)); exact BK278.out⟩, ⟨by (with_reducible repeat (first | refine blk_drewN ?_ _ | refine blk_drew ?_ | refine blk_alloc ?_ _)); exact BK279.out⟩, ⟨by repeat (first | (with_reducible first | exact HB.out | apply below_alloc | apply pw_below_drewN | apply below_drew1 | refine below_set ?_ GE278.out | refine below_set ?_ GE279.out) | exact HB.out)⟩⟩
      · rw [if_neg c9] at H
        have c9b0 : decide (5 < a0_0) = false := decide_eq_false c9
        clear c9
        replace H := Option.bind_eq_some_iff.mp H
        obtain ⟨t280, A120, H⟩ := H
        replace H : (colonnaderef18_Test.j0 k (!t280) a0_0 a0_1 a0_2 a0_3 a0_4 a0_5 a0_6 l0_7 l0_8 a1_0 a1_1 a1_2 a1_3) = some r := H
        have A12 := Aside0.mk A120
        clear A120
        have H' := Aside0.mk H
        clear H
        have hnb13 := NB278_279.out
        have hnc13 := NB279_278.out
        obtain ⟨hcz14_0, hcz14_1, hcz14_2, hcz14_3, hcz14_4, hcz14_5, hcz14_6, hcz14_7, hcz14_8⟩ := cells_9 BK278.out
        obtain ⟨hfz14_0, hfz14_1, hfz14_2, hfz14_3, hfz14_4, hfz14_5, hfz14_6, hfz14_7, hfz14_8⟩ := froz_9 BK278.out
        obtain ⟨hcz15_0, hcz15_1, hcz15_2, hcz15_3⟩ := cells_4 BK279.out
        obtain ⟨hfz15_0, hfz15_1, hfz15_2, hfz15_3⟩ := froz_4 BK279.out
        go_wp2_with (first | (go_at_call 50; (with_reducible refine (colonnaderef18_May.calls a1_0 a1_1 a1_2 a1_3 t280 _ A12.out).mono ?_); rintro e w16 ⟨rfl, hb⟩; (try clear A12); have n0_ := blkS BK278 hb; have n1_ := blkS BK279 hb; have n2_ := Aside0.mk (below_step (by repeat (first | (with_reducible first | exact HB.out | apply below_alloc | apply pw_below_drewN | apply below_drew1 | refine below_set ?_ GE278.out | refine below_set ?_ GE279.out) | exact HB.out)) hb); clear BK278; clear BK279; clear HB; have BK278 := n0_; have BK279 := n1_; have HB := n2_; clear n0_ n1_ n2_; (try clear hb); (try clear hb2); (try clear hk); (try clear hi)))
        go_meet
        case rel => exact ⟨_, (!t280), (by first | rfl | (simp; done) | (simp [*]; done)), H', ⟨by first | omega | exact Nat.le_refl _⟩, ⟨by (with_reducible repeat (first | refine blk_drewN ?_ _ | refine blk_drew ?_ | refine blk_alloc ?_ _)); exact BK278.out⟩, ⟨by (with_reducible repeat (first | refine blk_drewN ?_ _ | refine blk_drew ?_ | refine blk_alloc ?_ _)); exact BK279.out⟩, ⟨by repeat (first | (with_reducible first | exact HB.out | apply below_alloc | apply pw_below_drewN | apply below_drew1 | refine below_set ?_ GE278.out | refine below_set ?_ GE279.out) | exact HB.out)⟩⟩
  case rest =>
    clear HC3
    try clear c1
    try clear p2
    try clear c6
    try clear c6b0
    try clear c7
    try clear c9
    try clear c9b0
    try clear c10
    try clear c13
    try clear hcz11_0
    try clear hcz11_1
    try clear hcz11_2
    try clear hcz11_3
    try clear hcz11_4
    try clear hcz11_5
    try clear hcz11_6
    try clear hcz11_7
    try clear hcz11_8
    try clear hcz14_0
    try clear hcz14_1
    try clear hcz14_2
    try clear hcz14_3
    try clear hcz14_4
    try clear hcz14_5
    try clear hcz14_6
    try clear hcz14_7
    try clear hcz14_8
    try clear hcz15_0
    try clear hcz15_1
    try clear hcz15_2
    try clear hcz15_3
    try clear hcz8_0
    try clear hcz8_1
    try clear hcz8_2
    try clear hcz8_3
    try clear hcz8_4
    try clear hcz8_5
    try clear hcz8_6
    try clear hcz8_7
    try clear hcz8_8
    try clear hfz11_0
    try clear hfz11_1
    try clear hfz11_2
    try clear hfz11_3
    try clear hfz11_4
    try clear hfz11_5
    try clear hfz11_6
    try clear hfz11_7
    try clear hfz11_8
    try clear hfz14_0
    try clear hfz14_1
    try clear hfz14_2
    try clear hfz14_3
    try clear hfz14_4
    try clear hfz14_5
    try clear hfz14_6
    try clear hfz14_7
    try clear hfz14_8
    try clear hfz15_0
    try clear hfz15_1
    try clear hfz15_2
    try clear hfz15_3
    try clear hfz8_0
    try clear hfz8_1
    try clear hfz8_2
    try clear hfz8_3
    try clear hfz8_4
    try clear hfz8_5
    try clear hfz8_6
    try clear hfz8_7
    try clear hfz8_8
    obtain ⟨kq, x17_2, rfl, HA, HJ2, BK278, BK279, HB⟩ := hcut
    cases kq with
    | zero => exact absurd HA.out (by simp [colonnaderef18_Test.j0])
    | succ kj2 =>
      have H := HA.out
      clear HA
      simp only [colonnaderef18_Test.j0] at H
      by_cases c17 : x17_2 = true
      · subst c17
        have H1 : (some 0) = some r := by rw [if_pos rfl] at H; exact H
        clear H
        have H := H1
        clear H1
        obtain rfl := Option.some.inj H
        go_wp2
        go_ret
        exact ⟨by first | rfl | (simp [errW_none, errW_some] <;> rfl) | (simp [*, errW_none, errW_some] <;> rfl), by repeat (first | (with_reducible first | exact HB.out | apply below_alloc | apply pw_below_drewN | apply below_drew1 | refine below_set ?_ GE278.out | refine below_set ?_ GE279.out) | exact HB.out)⟩
      · replace c17 := Bool.eq_false_iff.mpr c17
        subst c17
        have H1 : (if a1_0 = 0 then (if a0_0 = 4 then (some 1) else (some 2)) else ((colonnaderef18_says.f kj2 a0_0 a0_1 a0_2 a0_3 a0_4 a0_5 a0_6 l0_7 l0_8 a1_0 a1_1 a1_2 a1_3).bind fun t281 => (if t281 = true then (some 1) else (some 0)))) = some r := by rw [if_neg (show ¬ (false = true) by decide)] at H; exact H
        clear H
        have H := H1
        clear H1
        by_cases c18 : a1_0 = 0
        · rw [if_pos c18] at H
          have c18b0 : (a1_0 == 0) = true := beq_iff_eq.mpr c18
          have c18b1 : (a1_0 != 0) = false := bne_eq_false_iff_eq.mpr c18
          clear c18
          by_cases c19 : a0_0 = 4
          · rw [if_pos c19] at H
            have c19b0 : (a0_0 == 4) = true := beq_iff_eq.mpr c19
            have c19b1 : (a0_0 != 4) = false := bne_eq_false_iff_eq.mpr c19
            clear c19
            obtain rfl := Option.some.inj H
            have hnb20 := NB279_278.out
            have hnc20 := NB278_279.out
            obtain ⟨hcz21_0, hcz21_1, hcz21_2, hcz21_3⟩ := cells_4 BK279.out
            obtain ⟨hfz21_0, hfz21_1, hfz21_2, hfz21_3⟩ := froz_4 BK279.out
            obtain ⟨hcz22_0, hcz22_1, hcz22_2, hcz22_3, hcz22_4, hcz22_5, hcz22_6, hcz22_7, hcz22_8⟩ := cells_9 BK278.out
            obtain ⟨hfz22_0, hfz22_1, hfz22_2, hfz22_3, hfz22_4, hfz22_5, hfz22_6, hfz22_7, hfz22_8⟩ := froz_9 BK278.out
            go_wp2
            go_ret
            exact ⟨by first | rfl | (simp [errW_none, errW_some] <;> rfl) | (simp [*, errW_none, errW_some] <;> rfl), by repeat (first | (with_reducible first | exact HB.out | apply below_alloc | apply pw_below_drewN | apply below_drew1 | refine below_set ?_ GE278.out | refine below_set ?_ GE279.out) | exact HB.out)⟩
          · rw [if_neg c19] at H
            have c19b0 : (a0_0 == 4) = false := beq_eq_false_iff_ne.mpr c19
            have c19b1 : (a0_0 != 4) = true := bne_iff_ne.mpr c19
            obtain rfl := Option.some.inj H
            have hnb23 := NB279_278.out
            have hnc23 := NB278_279.out
            obtain ⟨hcz24_0, hcz24_1, hcz24_2, hcz24_3⟩ := cells_4 BK279.out
            obtain ⟨hfz24_0, hfz24_1, hfz24_2, hfz24_3⟩ := froz_4 BK279.out
            obtain ⟨hcz25_0, hcz25_1, hcz25_2, hcz25_3, hcz25_4, hcz25_5, hcz25_6, hcz25_7, hcz25_8⟩ := cells_9 BK278.out
            obtain ⟨hfz25_0, hfz25_1, hfz25_2, hfz25_3, hfz25_4, hfz25_5, hfz25_6, hfz25_7, hfz25_8⟩ := froz_9 BK278.out
            go_wp2
            go_ret
            exact ⟨by first | rfl | (simp [errW_none, errW_some] <;> rfl) | (simp [*, errW_none, errW_some] <;> rfl), by repeat (first | (with_reducible first | exact HB.out | apply below_alloc | apply pw_below_drewN | apply below_drew1 | refine below_set ?_ GE278.out | refine below_set ?_ GE279.out) | exact HB.out)⟩
        · rw [if_neg c18] at H
          have c18b0 : (a1_0 == 0) = false := beq_eq_false_iff_ne.mpr c18
          have c18b1 : (a1_0 != 0) = true := bne_iff_ne.mpr c18
          replace H := Option.bind_eq_some_iff.mp H
          obtain ⟨t281, A260, H⟩ := H
          replace H : (if t281 = true then (some 1) else (some 0)) = some r := H
          have A26 := Aside0.mk A260
          clear A260
          by_cases c27 : t281 = true
          · subst c27
            have H1 : (some 1) = some r := by rw [if_pos rfl] at H; exact H
            clear H
            have H := H1
            clear H1
            obtain rfl := Option.some.inj H
            have hnb28 := NB279_278.out
            have hnc28 := NB278_279.out
            obtain ⟨hcz29_0, hcz29_1, hcz29_2, hcz29_3⟩ := cells_4 BK279.out
            obtain ⟨hfz29_0, hfz29_1, hfz29_2, hfz29_3⟩ := froz_4 BK279.out
            obtain ⟨hcz30_0, hcz30_1, hcz30_2, hcz30_3, hcz30_4, hcz30_5, hcz30_6, hcz30_7, hcz30_8⟩ := cells_9 BK278.out
            obtain ⟨hfz30_0, hfz30_1, hfz30_2, hfz30_3, hfz30_4, hfz30_5, hfz30_6, hfz30_7, hfz30_8⟩ := froz_9 BK278.out
            go_wp2_with (first | ((with_reducible refine gate_callee (f := 51) rfl ?_); refine goesL_ (some 26) rfl rfl Try.func51 (by kernel_rfl) rfl #[.agg #[.int .i64 a0_0, .string a0_1, .int .i64 a0_2, .int .i64 a0_3, .int .i64 a0_4, .float .f64 a0_5, .string a0_6, .slice A0_7 l0_7.length c0_7, .slice A0_8 l0_8.length c0_8], .agg #[.int .i64 a1_0, .int .i64 a1_1, .float .f64 a1_2, .string a1_3]] rfl (by (try simp only [List.map_toArray, List.map_cons, List.map_nil]); first | done | rfl | (simp only [List.length_drop, List.length_take]; rfl)) ?_; (with_reducible refine (colonnaderef18_says.calls kj2 a0_0 a0_1 a0_2 a0_3 a0_4 a0_5 a0_6 _ _ l0_7 _ _ l0_8 a1_0 a1_1 a1_2 a1_3 true _ ?side1 ?side2 ?side3 ?side4 A26.out).mono ?_); (case side1 => repeat (first | exact (Kd.C_below HR0_7.out HB.out) | (with_reducible refine Kd.C_alloc ?_ _) | (with_reducible refine Kd.C_drewN ?_ _) | (with_reducible refine Kd.C_drew ?_))); (case side2 => exact HC0_7.out); (case side3 => repeat (first | exact (Kd.C_below HR0_8.out HB.out) | (with_reducible refine Kd.C_alloc ?_ _) | (with_reducible refine Kd.C_drewN ?_ _) | (with_reducible refine Kd.C_drew ?_))); (case side4 => exact HC0_8.out); rintro e w31 ⟨rfl, hb⟩; refine ⟨_, rfl, ?_⟩; have n0_ := blkS BK278 hb; have n1_ := blkS BK279 hb; have n2_ := Aside0.mk (below_step (by repeat (first | (with_reducible first | exact HB.out | apply below_alloc | apply pw_below_drewN | apply below_drew1 | refine below_set ?_ GE278.out | refine below_set ?_ GE279.out) | exact HB.out)) hb); clear BK278; clear BK279; clear HB; have BK278 := n0_; have BK279 := n1_; have HB := n2_; clear n0_ n1_ n2_; (try clear hb); (try clear hb2); (try clear hk); (try clear hi)))
            go_ret
            exact ⟨by first | rfl | (simp [errW_none, errW_some] <;> rfl) | (simp [*, errW_none, errW_some] <;> rfl), by repeat (first | (with_reducible first | exact HB.out | apply below_alloc | apply pw_below_drewN | apply below_drew1 | refine below_set ?_ GE278.out | refine below_set ?_ GE279.out) | exact HB.out)⟩
          · replace c27 := Bool.eq_false_iff.mpr c27
            subst c27
            have H1 : (some 0) = some r := by rw [if_neg (show ¬ (false = true) by decide)] at H; exact H
            clear H
            have H := H1
            clear H1
            obtain rfl := Option.some.inj H
            have hnb32 := NB279_278.out
            have hnc32 := NB278_279.out
            obtain ⟨hcz33_0, hcz33_1, hcz33_2, hcz33_3⟩ := cells_4 BK279.out
            obtain ⟨hfz33_0, hfz33_1, hfz33_2, hfz33_3⟩ := froz_4 BK279.out
            obtain ⟨hcz34_0, hcz34_1, hcz34_2, hcz34_3, hcz34_4, hcz34_5, hcz34_6, hcz34_7, hcz34_8⟩ := cells_9 BK278.out
            obtain ⟨hfz34_0, hfz34_1, hfz34_2, hfz34_3, hfz34_4, hfz34_5, hfz34_6, hfz34_7, hfz34_8⟩ := froz_9 BK278.out
            go_wp2_with (first | ((with_reducible refine gate_callee (f := 51) rfl ?_); refine goesL_ (some 26) rfl rfl Try.func51 (by kernel_rfl) rfl #[.agg #[.int .i64 a0_0, .string a0_1, .int .i64 a0_2, .int .i64 a0_3, .int .i64 a0_4, .float .f64 a0_5, .string a0_6, .slice A0_7 l0_7.length c0_7, .slice A0_8 l0_8.length c0_8], .agg #[.int .i64 a1_0, .int .i64 a1_1, .float .f64 a1_2, .string a1_3]] rfl (by (try simp only [List.map_toArray, List.map_cons, List.map_nil]); first | done | rfl | (simp only [List.length_drop, List.length_take]; rfl)) ?_; (with_reducible refine (colonnaderef18_says.calls kj2 a0_0 a0_1 a0_2 a0_3 a0_4 a0_5 a0_6 _ _ l0_7 _ _ l0_8 a1_0 a1_1 a1_2 a1_3 false _ ?side1 ?side2 ?side3 ?side4 A26.out).mono ?_); (case side1 => repeat (first | exact (Kd.C_below HR0_7.out HB.out) | (with_reducible refine Kd.C_alloc ?_ _) | (with_reducible refine Kd.C_drewN ?_ _) | (with_reducible refine Kd.C_drew ?_))); (case side2 => exact HC0_7.out); (case side3 => repeat (first | exact (Kd.C_below HR0_8.out HB.out) | (with_reducible refine Kd.C_alloc ?_ _) | (with_reducible refine Kd.C_drewN ?_ _) | (with_reducible refine Kd.C_drew ?_))); (case side4 => exact HC0_8.out); rintro e w35 ⟨rfl, hb⟩; refine ⟨_, rfl, ?_⟩; have n0_ := blkS BK278 hb; have n1_ := blkS BK279 hb; have n2_ := Aside0.mk (below_step (by repeat (first | (with_reducible first | exact HB.out | apply below_alloc | apply pw_below_drewN | apply below_drew1 | refine below_set ?_ GE278.out | refine below_set ?_ GE279.out) | exact HB.out)) hb); clear BK278; clear BK279; clear HB; have BK278 := n0_; have BK279 := n1_; have HB := n2_; clear n0_ n1_ n2_; (try clear hb); (try clear hb2); (try clear hk); (try clear hi)))
            go_ret
            exact ⟨by first | rfl | (simp [errW_none, errW_some] <;> rfl) | (simp [*, errW_none, errW_some] <;> rfl), by repeat (first | (with_reducible first | exact HB.out | apply below_alloc | apply pw_below_drewN | apply below_drew1 | refine below_set ?_ GE278.out | refine below_set ?_ GE279.out) | exact HB.out)⟩

end Go.Proofs.Ytkedejphebfneaa.Pa
end
section
/- colonnaderef00.Pred: its walk by hand: a count that is written while a tree of predicates is gone through. -/
namespace Go.Proofs.Ytkedejphebfneaa.Pa
open Go.Proofs.Ytkedejphebfneaa.L Go.RowKit Go.Proofs.YtkedejphebfneaaW.PrintWords Go.Proofs.YtkedejphebfneaaW.PrintLast Go.Proofs.YtkedejphebfneaaW.PrintMore
set_option linter.unusedVariables false
set_option linter.unusedSimpArgs false
/-- All that was there stays, but the block g. -/
structure Kb (w w' : World) (g : Nat) : Prop where
  os : w'.os = w.os
  tape : w'.tape = w.tape
  output : w'.output = w.output
  size : w.heap.size ≤ w'.heap.size
  block : ∀ b, b < w.heap.size → b ≠ g → w'.heap[b]? = w.heap[b]?
theorem Kb.refl (w : World) (g : Nat) : Kb w w g := ⟨rfl, rfl, rfl, Nat.le_refl _, fun _ _ _ => rfl⟩
theorem Kb.trans {w w1 w2 : World} {g : Nat} (h : Kb w w1 g) (k : Kb w1 w2 g) : Kb w w2 g := ⟨k.os.trans h.os, k.tape.trans h.tape, k.output.trans h.output, Nat.le_trans h.size k.size, fun b hb hg => (k.block b (Nat.lt_of_lt_of_le hb h.size) hg).trans (h.block b hb hg)⟩
theorem Kb.set_ {w w1 : World} {g : Nat} (h : Kb w w1 g) (j : Nat) (u : Value) : Kb w (w1.setCell ⟨g, j, none⟩ u) g :=
  ⟨h.os, h.tape, h.output, by simpa [World.setCell, Array.size_modify] using h.size, fun b hb hg => by rw [Below.heap_setCell w1 ⟨g, j, none⟩ u b hg]; exact h.block b hb hg⟩
theorem Kb.drawN {w w1 : World} {g : Nat} (h : Kb w w1 g) (n : Nat) : Kb w (w1.drewN n) g := ⟨h.os, h.tape, h.output, h.size, h.block⟩
theorem Kb.below {w w1 W : World} {g : Nat} (h : Below w.heap.size w w1) (k : Kb w1 W g) (hg : w.heap.size ≤ g) : Below w.heap.size w W :=
  ⟨k.os.trans h.os, k.tape.trans h.tape, k.output.trans h.output, Nat.le_trans h.size k.size, fun b hb => (k.block b (Nat.lt_of_lt_of_le hb h.size) (by omega)).trans (h.block b hb)⟩
theorem Kb.cell {w W : World} {g : Nat} (h : Kb w W g) {a : Addr} {v : Value} (hc : w.cell? a = some v) (hb : a.block ≠ g) : W.cell? a = some v := by
  have hlt : a.block < w.heap.size := by
    rcases Nat.lt_or_ge a.block w.heap.size with h1 | h1
    · exact h1
    · unfold World.cell? at hc
      rw [Array.getElem?_eq_none h1] at hc
      simp at hc
  rw [← hc]
  simp only [World.cell?, h.block a.block hlt hb]
/-- How many predicates were met; is one too deep, or are there too many? -/
def bey : Nat → Int → List S32 → Int → Option (Bool × Int)
  | 0, _, _, _ => none
  | _ + 1, n, [], _ => some (false, n)
  | k + 1, n, p :: ps, left => if left = 0 ∨ wrap64 (n + 1) > 2147483647 then some (true, wrap64 (n + 1)) else (bey k (wrap64 (n + 1)) p.f5 (wrap64 (left - 1))).bind fun r => if r.1 = true then some (true, r.2) else bey k r.2 ps left
theorem bey_mono : ∀ (k : Nat) (n : Int) (l : List S32) (left : Int), LeO (bey k n l left) (bey (k + 1) n l left)
  | 0, _, _, _ => LeO.none _
  | k + 1, n, [], left => LeO.refl _
  | k + 1, n, p :: ps, left => by
    rw [bey, bey]
    exact LeO.ite (LeO.refl _) (LeO.bind (bey_mono k _ _ _) (fun r => LeO.ite (LeO.refl _) (bey_mono k _ _ _)))
theorem bey_ends (l : List S32) : ∀ (n left : Int), ∃ r, Evn (fun k => bey k n l left) r := by
  intro n left
  match l with
  | [] => exact ⟨_, Evn.succ (fun _ => rfl) (Evn.now (false, n))⟩
  | p :: ps =>
    by_cases hc : left = 0 ∨ wrap64 (n + 1) > 2147483647
    · exact ⟨_, Evn.succ (g' := fun _ => some (true, wrap64 (n + 1))) (fun k => by rw [bey, if_pos hc]) (Evn.now _)⟩
    · obtain ⟨r, hr⟩ := bey_ends p.f5 (wrap64 (n + 1)) (wrap64 (left - 1))
      by_cases hb : r.1 = true
      · exact ⟨(true, r.2), Evn.succ (g' := fun k => (bey k (wrap64 (n + 1)) p.f5 (wrap64 (left - 1))).bind fun r => if r.1 = true then some (true, r.2) else bey k r.2 ps left) (fun k => by rw [bey, if_neg hc]) (Evn.bind hr (Evn.pos hb (Evn.now _)))⟩
      · obtain ⟨s, hs⟩ := bey_ends ps r.2 left
        exact ⟨s, Evn.succ (g' := fun k => (bey k (wrap64 (n + 1)) p.f5 (wrap64 (left - 1))).bind fun r => if r.1 = true then some (true, r.2) else bey k r.2 ps left) (fun k => by rw [bey, if_neg hc]) (Evn.bind hr (Evn.neg hb hs))⟩
termination_by SizeOf.sizeOf l
decreasing_by
  · cases p; simp_wf; omega
  · simp_wf; omega
theorem far_of {w : World} {g : Nat} {n : Int} {t : TypeId} {a : Addr} {s : ByteArray} (hg : w.heap[g]? = some (.cells #[.int .i64 n] t (0, 0))) (hs : w.cell? ⟨a.block, a.off + 1, none⟩ = some (.string s)) : a.block ≠ g := by
  intro e
  rw [e, blk_cell hg] at hs
  simp at hs
set_option maxHeartbeats 8000000 in
theorem beyond_calls (k : Nat) : ∀ (n left : Int) (A0 : Option Addr) (c0 : Nat) (l : List S32) (r : Bool × Int) (w : World) (g : Nat), (∀ W, Kb w W g → Kd.C k32 W A0 l.length l) → w.heap[g]? = some (.cells #[.int .i64 n] 73 (0, 0)) → bey k n l left = some r →
    Calls Try.prog 47 #[.pointer (some ⟨g, 0, none⟩), .slice A0 l.length c0, .int .i64 left] w fun e w' => e = .returned (.bool r.1) ∧ Kb w w' g ∧ w'.heap[g]? = some (.cells #[.int .i64 r.2] 73 (0, 0)) := by
  induction k using Nat.strongRecOn with
  | ind k ih =>
  intro n left A0 c0 l r w g hT hg h
  have hm := (hT w (Kb.refl w g)).2.1
  have HT := Aside0.mk hT
  have HG := Aside0.mk hg
  have H0 := Aside0.mk h
  have IH := Aside0.mk ih
  clear hT hg h ih
  go_enter Try.func47, Try.ntmps47
  go_wp2_with (fail)
  go_loopg [7] l.length (fun kq v7 w' => ∃ (i : Nat) (n1 : Int) (k1 : Nat), v7 = .int .i64 i ∧ Aside0 (kq = l.length - i ∧ i ≤ l.length ∧ k1 ≤ k ∧ bey k1 n1 (l.drop i) left = some r) ∧ Aside0 (w'.heap[g]? = some (.cells #[.int .i64 n1] 73 (0, 0))) ∧ Aside0 (Kb w w' g))
  case atStart => exact ⟨0, n, k, rfl, ⟨by omega, by omega, Nat.le_refl _, by simpa using H0.out⟩, HG, ⟨Kb.refl _ _⟩⟩
  case round =>
    obtain ⟨i, n1, k1, rfl, hi, hK, hB⟩ := hrel
    obtain ⟨k2, hk2⟩ : ∃ k2, k1 = k2 + 1 := by
      cases k1 with
      | zero => have := hi.out.2.2.2; rw [bey] at this; cases this
      | succ k2 => exact ⟨k2, rfl⟩
    have HI := hi.out.2.2.2
    rw [hk2] at HI
    replace hk2 := Aside0.mk hk2
    rcases Nat.lt_or_ge i l.length with hlt | hge
    · have p1 : (0 : Int) ≤ i := by omega
      have q1 : (i : Int) < (l.length : Int) := by omega
      have hB1 := Aside0.mk (hB.out.set_ 0 (.int .i64 (wrap64 (n1 + 1))))
      obtain ⟨ad, A7, c7, A8, c8, e1, x0, x1, x2, x3, x4, x5, x6, x7, x8, _, _, hc8, g8⟩ := at_T32 (HT.out _ hB1.out) i p1 q1
      subst e1
      obtain ⟨p, hp⟩ : ∃ p, p = rd_T32 l i := ⟨_, rfl⟩
      rw [← hp] at x0 x1 x2 x3 x4 x5 x6 x7 x8 hc8 g8
      have hdr : l.drop i = p :: l.drop (i + 1) := by rw [List.drop_eq_getElem_cons hlt, hp]; simp [rd_T32, List.getD_eq_getElem?_getD, List.getElem?_eq_getElem hlt]
      simp only [Int.toNat_natCast] at x0 x1 x2 x3 x4 x5 x6 x7 x8
      rw [hdr, bey] at HI
      have hK1 : (wr.setCell ⟨g, 0, none⟩ (.int .i64 (wrap64 (n1 + 1)))).heap[g]? = some (.cells #[.int .i64 (wrap64 (n1 + 1))] 73 (0, 0)) := blk_put hK.out 0 _ rfl
      have hfar : (ad.add (i * 9)).block ≠ g := far_of hK1 x1
      have hT8 := Aside0.mk (show ∀ W, Kb (wr.setCell ⟨g, 0, none⟩ (.int .i64 (wrap64 (n1 + 1)))) W g → Kd.C k32 W A8 p.f5.length p.f5 from fun W hW => by
        obtain ⟨ad', A7', c7', A8', c8', e1, _, _, _, _, _, _, _, _, y8, _, _, _, z8⟩ := at_T32 (HT.out W (hB1.out.trans hW)) i p1 q1
        obtain rfl := Option.some.inj e1
        rw [← hp] at y8 z8
        simp only [Int.toNat_natCast] at y8
        have e2 := hW.cell x8 hfar
        rw [y8] at e2
        have e3 := Option.some.inj e2
        injection e3 with e4
        rw [← e4]; exact z8)
      have HK1 := Aside0.mk hK1
      have HP := Aside0.mk (And.intro hp hdr)
      have hw9 : wrap64 ((i : Int) + 1) = ((i + 1 : Nat) : Int) := by rw [wrap64_in (by omega) (by omega)]; omega
      have hn0 : wr.cell? ⟨g, 0, none⟩ = some (.int .i64 n1) := (blk_cell hK.out 0).trans rfl
      have hf0 : wr.frozen? ⟨g, 0, none⟩ = false := blk_frozen hK.out 0
      have hn1 : (wr.setCell ⟨g, 0, none⟩ (.int .i64 (wrap64 (n1 + 1)))).cell? ⟨g, 0, none⟩ = some (.int .i64 (wrap64 (n1 + 1))) := (blk_cell hK1 0).trans rfl
      clear x0 x1 x2 x3 x4 x5 x6 x7 hp hdr g8 hc8 hfar hK1
      by_cases hl : left = 0
      · rw [if_pos (Or.inl hl)] at HI
        obtain rfl := Option.some.inj HI
        clear HI
        have hl0 : (left == 0) = true := by simpa using hl
        clear hl
        go_wp2_with (fail)
        all_goals (go_ret; exact ⟨rfl, hB1.out, HK1.out⟩)
      · have hl0 : (left == 0) = false := by simpa using hl
        by_cases hn : wrap64 (n1 + 1) > 2147483647
        · rw [if_pos (Or.inr hn)] at HI
          obtain rfl := Option.some.inj HI
          clear HI hl
          have hn5 : decide (2147483647 < wrap64 (n1 + 1)) = true := decide_eq_true hn
          clear hn
          go_wp2_with (fail)
          all_goals (go_ret; exact ⟨rfl, hB1.out, HK1.out⟩)
        · rw [if_neg (fun h => h.elim hl hn)] at HI
          obtain ⟨r1, hr1, HI⟩ := Option.bind_eq_some_iff.1 HI
          have hn5 : decide (2147483647 < wrap64 (n1 + 1)) = false := decide_eq_false hn
          have hC := Aside0.mk (IH.out k2 (by have := hi.out.2.2.1; have := hk2.out; omega) (wrap64 (n1 + 1)) (wrap64 (left - 1)) A8 c8 p.f5 r1 (wr.setCell ⟨g, 0, none⟩ (.int .i64 (wrap64 (n1 + 1)))) g hT8.out HK1.out hr1)
          clear hl hn hr1
          by_cases hb : r1.1 = true
          · rw [if_pos hb] at HI
            obtain rfl := Option.some.inj HI
            clear HI
            go_wp2_with (go_at_call 47; refine hC.out.mono ?_; rintro e w2 ⟨rfl, hb2, hk2⟩; have HB2 := Aside0.mk hb2; have HK2 := Aside0.mk hk2; clear hb2 hk2)
            all_goals (go_ret; exact ⟨rfl, hB1.out.trans HB2.out, HK2.out⟩)
          · rw [if_neg hb] at HI
            replace HI := Aside0.mk HI
            have hb5 : r1.1 = false := by simpa using hb
            clear hb
            go_wp2_with (go_at_call 47; refine hC.out.mono ?_; rintro e w2 ⟨rfl, hb2, hk2⟩; have HB2 := Aside0.mk hb2; have HK2 := Aside0.mk hk2; clear hb2 hk2)
            go_roundg (l.length - (i + 1))
            case measure => have := hi.out.1; omega
            case rel => exact ⟨i + 1, r1.2, k2, by simp, ⟨rfl, by omega, by have := hi.out.2.2.1; have := hk2.out; omega, HI.out⟩, HK2, ⟨hB1.out.trans HB2.out⟩⟩
    · have he : i = l.length := by have := hi.out.2.1; omega
      rw [List.drop_eq_nil_of_le (by omega), bey] at HI
      obtain rfl := Option.some.inj HI
      clear HI
      subst he
      go_wp2_with (fail)
      all_goals (go_ret; exact ⟨rfl, hB.out, hK.out⟩)
def colonnaderef00_Pred.f (k : Nat) (a0 : Int) (a1 : ByteArray) (a2 a3 a4 : Int) (a5 : Nat) (a6 : ByteArray) (l7 : List S28) (l8 : List S32) : Option Bool :=
  (bey k 0 [⟨a0, a1, a2, ⟨a3, a4, a5, a6⟩, l7, l8⟩] 65528).bind fun r => some r.1
theorem colonnaderef00_Pred.mono (a0 : Int) (a1 : ByteArray) (a2 a3 a4 : Int) (a5 : Nat) (a6 : ByteArray) (l7 : List S28) (l8 : List S32) (k : Nat) : LeO (colonnaderef00_Pred.f k a0 a1 a2 a3 a4 a5 a6 l7 l8) (colonnaderef00_Pred.f (k + 1) a0 a1 a2 a3 a4 a5 a6 l7 l8) := by
  unfold colonnaderef00_Pred.f
  exact LeO.bind (bey_mono _ _ _ _) (fun _ => LeO.refl _)
theorem pred_ends (a0 : Int) (a1 : ByteArray) (a2 a3 a4 : Int) (a5 : Nat) (a6 : ByteArray) (l7 : List S28) (l8 : List S32) : ∃ b, Evn (fun k => colonnaderef00_Pred.f k a0 a1 a2 a3 a4 a5 a6 l7 l8) b := by
  obtain ⟨r, hr⟩ := bey_ends [⟨a0, a1, a2, ⟨a3, a4, a5, a6⟩, l7, l8⟩] 0 65528
  exact ⟨r.1, Evn.bind hr (Evn.now _)⟩
theorem one_pred {w W : World} {b : Nat} (p : S32) {A7 : Option Addr} {c7 : Nat} {A8 : Option Addr} {c8 : Nat} (hW : W.heap[b]? = some (.cells #[.int .i64 p.f0, .string p.f1, .int .i64 p.f2, .int .i64 p.f3.f0, .int .i64 p.f3.f1, .float .f64 p.f3.f2, .string p.f3.f3, .slice A7 p.f4.length c7, .slice A8 p.f5.length c8] 32 (0, 0)))
    (l7 : p.f4.length ≤ c7) (g7 : Kd.C k28 W A7 p.f4.length p.f4) (l8 : p.f5.length ≤ c8) (g8 : Kd.C k32 W A8 p.f5.length p.f5) : Kd.C k32 W (some ⟨b, 0, none⟩) [p].length [p] := by
  refine ⟨rfl, by simp, fun _ => ⟨_, rfl, fun j q hj => ?_⟩⟩
  have ha : ∀ i, (⟨b, 0, none⟩ : Addr).add i = ⟨b, i, none⟩ := fun i => by unfold Addr.add; by_cases h : i = 0 <;> simp [h]
  rcases j with _ | j
  · obtain rfl : p = q := by simpa using hj
    refine ⟨_, rfl, k32_mk _ _ l7 g7 l8 g8, fun i u hu => ?_⟩
    rw [ha, blk_cell hW]
    have e9 : 0 * k32.sz + i = i := by omega
    rw [e9]
    simpa using hu
  · simp at hj
set_option maxHeartbeats 8000000 in
theorem colonnaderef00_Pred.calls (k : Nat) (a0_0 : Int) (a0_1 : ByteArray) (a0_2 a0_3 a0_4 : Int) (a0_5 : Nat) (a0_6 : ByteArray) (A0_7 : Option Addr) (c0_7 : Nat) (l0_7 : List S28) (A0_8 : Option Addr) (c0_8 : Nat) (l0_8 : List S32) (r : Bool) (w : World) (hr0_7 : Kd.C k28 w A0_7 l0_7.length l0_7) (hc0_7 : l0_7.length ≤ c0_7) (hr0_8 : Kd.C k32 w A0_8 l0_8.length l0_8) (hc0_8 : l0_8.length ≤ c0_8) (h : colonnaderef00_Pred.f k a0_0 a0_1 a0_2 a0_3 a0_4 a0_5 a0_6 l0_7 l0_8 = some r) :
    Calls Try.prog 16 #[.agg #[.int .i64 a0_0, .string a0_1, .int .i64 a0_2, .int .i64 a0_3, .int .i64 a0_4, .float .f64 a0_5, .string a0_6, .slice A0_7 l0_7.length c0_7, .slice A0_8 l0_8.length c0_8]] w fun e w' => e = .returned (.bool r) ∧ Below w.heap.size w w' := by
  unfold colonnaderef00_Pred.f at h
  obtain ⟨q, hq, h⟩ := Option.bind_eq_some_iff.1 h
  obtain rfl := Option.some.inj h
  clear h
  have HR7 := Aside0.mk (And.intro hr0_7 hc0_7)
  have HR8 := Aside0.mk (And.intro hr0_8 hc0_8)
  have HQ := Aside0.mk hq
  clear hq hr0_7 hc0_7 hr0_8 hc0_8
  go_enter Try.func16, Try.ntmps16
  go_wp2_with (go_at_call 47; refine (beyond_calls k 0 65528 (some ⟨w.heap.size + 1 + 1, 0, none⟩) 1 [⟨a0_0, a0_1, a0_2, ⟨a0_3, a0_4, a0_5, a0_6⟩, l0_7, l0_8⟩] q _ (w.heap.size + 1) ?hT ?hg HQ.out).mono ?_; (case hT => intro W hW; have hb0 : Below w.heap.size w W := Kb.below (below_alloc (below_alloc (below_alloc (Below.refl _ _) _) _) _) hW (by omega); exact one_pred (w := w) (A7 := A0_7) (c7 := c0_7) (A8 := A0_8) (c8 := c0_8) ⟨a0_0, a0_1, a0_2, ⟨a0_3, a0_4, a0_5, a0_6⟩, l0_7, l0_8⟩ ((hW.block _ (by simp) (by omega)).trans (by simpa using blk_new ((w.alloc _).alloc _) _)) HR7.out.2 (Kd.C_below HR7.out.1 hb0) HR8.out.2 (Kd.C_below HR8.out.1 hb0)); (case hg => exact blk_alloc (by simpa using blk_new (w.alloc _) _) _); rintro e w2 ⟨rfl, hb2, hk2⟩; have HB2 := Aside0.mk (Kb.below (below_alloc (below_alloc (below_alloc (Below.refl _ _) _) _) _) hb2 (by omega)); clear hb2 hk2)
  go_ret
  exact ⟨rfl, HB2.out⟩
end Go.Proofs.Ytkedejphebfneaa.Pa
end
section
/- The closure of atom.Check, its walk by hand: is a value wrong for a column? -/
namespace Go.Proofs.Ytkedejphebfneaa.Pa
open Go.Proofs.Ytkedejphebfneaa.L Go.RowKit Go.Proofs.YtkedejphebfneaaW.PrintWords Go.Proofs.YtkedejphebfneaaW.PrintLast Go.Proofs.YtkedejphebfneaaW.PrintMore
set_option linter.unusedVariables false
set_option linter.unusedSimpArgs false
attribute [local go_sem] run_store_float cmp_feq cmp_fne cmp_flt cmp_fle cmp_fgt cmp_fge un_fneg equalIn_feq run_fop run_fint run_freal cmp_sgt
/-- Is a value wrong for the column at a place? -/
def wrongT (k : Nat) (cols : List S23) (at_ : Int) (c : S28) : Option Bool :=
  (value_May.f k c.f0 c.f1 c.f2 c.f3).bind fun b => if b = true then (if c.f0 = 0 then some true else some (c.f0 != (rd_T23 cols at_).f1)) else some true
theorem wrongT_mono (k : Nat) (cols : List S23) (at_ : Int) (c : S28) : LeO (wrongT k cols at_ c) (wrongT (k + 1) cols at_ c) := by
  unfold wrongT
  exact LeO.bind (value_May.mono _ _ _ _ _) (fun _ => LeO.refl _)
theorem keepW {w W : World} {g1 g2 g3 : Nat} {a : Addr} {v1 v2 v3 x0 x1 x2 x3 : Value} (hB : Below w.heap.size w W) (h1 : w.cell? ⟨g1, 0, none⟩ = some v1) (h2 : w.cell? ⟨g2, 0, none⟩ = some v2) (h3 : w.cell? a = some v3)
    (y0 : w.cell? ⟨g3, 0, none⟩ = some x0) (y1 : w.cell? ⟨g3, 1, none⟩ = some x1) (y2 : w.cell? ⟨g3, 2, none⟩ = some x2) (y3 : w.cell? ⟨g3, 3, none⟩ = some x3) :
    W.cell? ⟨g1, 0, none⟩ = some v1 ∧ W.cell? ⟨g2, 0, none⟩ = some v2 ∧ W.cell? a = some v3 ∧ W.cell? ⟨g3, 0, none⟩ = some x0 ∧ W.cell? ⟨g3, 1, none⟩ = some x1 ∧ W.cell? ⟨g3, 2, none⟩ = some x2 ∧ W.cell? ⟨g3, 3, none⟩ = some x3 ∧ Aside0 (Below w.heap.size w W) :=
  ⟨pw_cell_below hB h1, pw_cell_below hB h2, pw_cell_below hB h3, pw_cell_below hB y0, pw_cell_below hB y1, pw_cell_below hB y2, pw_cell_below hB y3, ⟨hB⟩⟩
set_option maxHeartbeats 8000000 in
theorem chk_closure (k : Nat) (g1 g2 : Nat) (A0 : Option Addr) (c0 : Nat) (cols : List S23) (at_ : Int) (c : S28) (r : Bool) (w : World) (hb1 : w.heap[g1]? = some (.cells #[.slice A0 cols.length c0] 24 (0, 0))) (hb2 : w.heap[g2]? = some (.cells #[.int .i64 at_] 3 (0, 0)))
    (hC : Kd.C k23 w A0 cols.length cols) (h0 : 0 ≤ at_) (h1 : at_ < cols.length) (h : wrongT k cols at_ c = some r) :
    Calls Try.prog 43 #[.agg #[.int .i64 c.f0, .int .i64 c.f1, .float .f64 c.f2, .string c.f3], .pointer (some ⟨g1, 0, none⟩), .pointer (some ⟨g2, 0, none⟩)] w fun e w' => e = .returned (.bool r) ∧ Below w.heap.size w w' := by
  unfold wrongT at h
  obtain ⟨b, hm, h9⟩ := Option.bind_eq_some_iff.1 h
  clear h
  obtain ⟨W0, hW0⟩ : ∃ W0, W0 = w.alloc (.cells #[.int .i64 c.f0, .int .i64 c.f1, .float .f64 c.f2, .string c.f3] 28) := ⟨_, rfl⟩
  have hM := Aside0.mk (fun W => value_May.calls k c.f0 c.f1 c.f2 c.f3 b W hm)
  have hB0 := Aside0.mk (show Below w.heap.size w W0 by rw [hW0]; exact below_alloc (Below.refl _ _) _)
  obtain ⟨ad, e1, x0, x1, x2⟩ := at_T23 (Kd.C_below hC hB0.out) at_ h0 h1
  subst e1
  obtain ⟨d, hd⟩ : ∃ d, d = rd_T23 cols at_ := ⟨_, rfl⟩
  rw [← hd] at x0 x1 x2 h9
  have y1 : W0.cell? ⟨g1, 0, none⟩ = some (.slice (some ad) cols.length c0) := by rw [hW0]; exact (blk_cell (blk_alloc hb1 _) 0).trans rfl
  have y2 : W0.cell? ⟨g2, 0, none⟩ = some (.int .i64 at_) := by rw [hW0]; exact (blk_cell (blk_alloc hb2 _) 0).trans rfl
  have hbn : W0.heap[w.heap.size]? = some (.cells #[.int .i64 c.f0, .int .i64 c.f1, .float .f64 c.f2, .string c.f3] 28 (0, 0)) := by rw [hW0]; exact blk_new _ _
  have z0 : W0.cell? ⟨w.heap.size, 0, none⟩ = some (.int .i64 c.f0) := (blk_cell hbn 0).trans rfl
  have z1 : W0.cell? ⟨w.heap.size, 1, none⟩ = some (.int .i64 c.f1) := (blk_cell hbn 1).trans rfl
  have z2 : W0.cell? ⟨w.heap.size, 2, none⟩ = some (.float .f64 c.f2) := (blk_cell hbn 2).trans rfl
  have z3 : W0.cell? ⟨w.heap.size, 3, none⟩ = some (.string c.f3) := (blk_cell hbn 3).trans rfl
  have q0 : decide (0 ≤ at_) = true := decide_eq_true h0
  have q1 : decide (at_ < (cols.length : Int)) = true := decide_eq_true h1
  clear hb1 hb2 hC hbn hm x0 x2
  replace hd := Aside0.mk hd
  have H := Aside0.mk h9
  have HW0 := Aside0.mk hW0
  clear h9 hW0
  go_enter Try.func43, Try.ntmps43
  go_wp2_with (fail)
  rw [← HW0.out]
  have H1 := H.out
  have keep0 := fun (W : World) (hB : Below W0.heap.size W0 W) => keepW hB y1 y2 x1 z0 z1 z2 z3
  replace keep0 := Aside0.mk keep0
  by_cases hb : b = true
  · rw [if_pos hb] at H1
    subst hb
    by_cases hk : c.f0 = 0
    · rw [if_pos hk] at H1
      obtain rfl := Option.some.inj H1
      clear H1 H
      have hk0 : (c.f0 == 0) = true := by simpa using hk
      clear hk
      refine start_ (n := 19) (S := fun w' => w'.cell? ⟨g1, 0, none⟩ = some (.slice (some ad) cols.length c0) ∧ w'.cell? ⟨g2, 0, none⟩ = some (.int .i64 at_) ∧ w'.cell? ⟨(ad.add (at_.toNat * 3)).block, (ad.add (at_.toNat * 3)).off + 1, none⟩ = some (.int .i64 d.f1) ∧ w'.cell? ⟨w.heap.size, 0, none⟩ = some (.int .i64 c.f0) ∧ w'.cell? ⟨w.heap.size, 1, none⟩ = some (.int .i64 c.f1) ∧ w'.cell? ⟨w.heap.size, 2, none⟩ = some (.float .f64 c.f2) ∧ w'.cell? ⟨w.heap.size, 3, none⟩ = some (.string c.f3) ∧ Aside0 (Below W0.heap.size W0 w')) (ds := []) #[false, false, false, false, false, false, false, false, false, false, false, false, false, false, false, false, false, false, false] (by kernel_rfl) rfl rfl (keep0.out _ (below_drew (Below.refl _ _))) (fun hHeld => ?_)
      refine takeP #[true, false, false, false, false, false, false, false, false, false, false, false, false, false, false, false, false, false, false] (by kernel_rfl) hHeld (i := 0) (N := some 5) ?_
      refine one_ (i := 1) (N := some 6) #[true, true, false, false, false, false, false, false, false, false, false, false, false, false, false, false, false, false, false] rfl rfl (by kernel_rfl) (by decide) (fun K hK => ?_)
      refine goes_ Try.func44 (by kernel_rfl) rfl #[.agg #[.int .i64 c.f0, .int .i64 c.f1, .float .f64 c.f2, .string c.f3]] (by rfl) rfl rfl (by (try simp only [List.map_toArray, List.map_cons, List.map_nil]); first | done | rfl) ?_
      refine (hM.out _).mono ?_
      rintro e w2 ⟨rfl, hb2⟩
      refine ⟨_, rfl, ?_⟩
      have hb3 : Below W0.heap.size W0 w2 := below_then (below_drew (Below.refl _ _)) (Nat.le_refl _) hb2
      have HB3 := Aside0.mk (below_then hB0.out hB0.out.size hb3)
      refine hK.out _ _ (keep0.out _ hb3) (fun hHeld => ?_)
      clear hb2 hb3
      clear hK K
      refine norm_ (a' := ?_) ?_ ?_
      rotate_left
      · show Act.put _ (some 6) _ = _
        simp only [Act.put, List.setIfInBounds_toArray, List.set_cons_zero, List.set_cons_succ, i64_w, i32_w]
        rfl
      refine pureP #[true, true, true, false, false, false, false, false, false, false, false, false, false, false, false, false, false, false, false] (by kernel_rfl) (i := 2) (N := some 7) ?_
      refine pureP #[true, true, true, true, false, false, false, false, false, false, false, false, false, false, false, false, false, false, false] (by kernel_rfl) (i := 3) (N := some 8) ?_
      refine pureP #[true, true, true, true, true, false, false, false, false, false, false, false, false, false, false, false, false, false, false] (by kernel_rfl) (i := 4) (N := some 9) ?_
      refine takeP #[true, true, true, true, true, true, false, false, false, false, false, false, false, false, false, false, false, false, false] (by kernel_rfl) hHeld (i := 5) (N := some 10) ?_
      refine pureP #[true, true, true, true, true, true, true, false, false, false, false, false, false, false, false, false, false, false, false] (by kernel_rfl) (i := 6) (N := some 11) ?_
      refine pureP #[true, true, true, true, true, true, true, true, false, false, false, false, false, false, false, false, false, false, false] (by kernel_rfl) (i := 7) (N := some 12) ?_
      refine pureP #[true, true, true, true, true, true, true, true, true, false, false, false, false, false, false, false, false, false, false] (by kernel_rfl) (i := 8) (N := some 13) ?_
      refine pureO #[true, true, true, true, true, true, true, true, true, true, false, false, false, false, false, false, false, false, false] (by kernel_rfl) (i := 9) (N := some 14) ?_
      refine pureO #[true, true, true, true, true, true, true, true, true, true, true, false, false, false, false, false, false, false, false] (by kernel_rfl) (i := 10) (N := some 15) ?_
      refine pureO #[true, true, true, true, true, true, true, true, true, true, true, true, false, false, false, false, false, false, false] (by kernel_rfl) (i := 11) (N := some 16) ?_
      refine pureO #[true, true, true, true, true, true, true, true, true, true, true, true, true, false, false, false, false, false, false] (by kernel_rfl) (i := 12) (N := some 17) ?_
      refine pureO #[true, true, true, true, true, true, true, true, true, true, true, true, true, true, false, false, false, false, false] (by kernel_rfl) (i := 13) (N := some 18) ?_
      refine pureO #[true, true, true, true, true, true, true, true, true, true, true, true, true, true, true, false, false, false, false] (by kernel_rfl) (i := 14) (N := some 19) ?_
      refine pureO #[true, true, true, true, true, true, true, true, true, true, true, true, true, true, true, true, false, false, false] (by kernel_rfl) (i := 15) (N := some 20) ?_
      refine pureO #[true, true, true, true, true, true, true, true, true, true, true, true, true, true, true, true, true, false, false] (by kernel_rfl) (i := 16) (N := some 21) ?_
      refine pureP #[true, true, true, true, true, true, true, true, true, true, true, true, true, true, true, true, true, true, false] (by kernel_rfl) (i := 17) (N := some 22) ?_
      refine pureP #[true, true, true, true, true, true, true, true, true, true, true, true, true, true, true, true, true, true, true] (by kernel_rfl) (i := 18) (N := some 4) ?_
      refine done_ (by kernel_rfl) ?_
      try go_wp2
      go_ret
      exact ⟨by first | rfl | simp_all, HB3.out⟩
    · rw [if_neg hk] at H1
      obtain rfl := Option.some.inj H1
      clear H1 H
      have hk0 : (c.f0 == 0) = false := by simpa using hk
      clear hk
      refine start_ (n := 19) (S := fun w' => w'.cell? ⟨g1, 0, none⟩ = some (.slice (some ad) cols.length c0) ∧ w'.cell? ⟨g2, 0, none⟩ = some (.int .i64 at_) ∧ w'.cell? ⟨(ad.add (at_.toNat * 3)).block, (ad.add (at_.toNat * 3)).off + 1, none⟩ = some (.int .i64 d.f1) ∧ w'.cell? ⟨w.heap.size, 0, none⟩ = some (.int .i64 c.f0) ∧ w'.cell? ⟨w.heap.size, 1, none⟩ = some (.int .i64 c.f1) ∧ w'.cell? ⟨w.heap.size, 2, none⟩ = some (.float .f64 c.f2) ∧ w'.cell? ⟨w.heap.size, 3, none⟩ = some (.string c.f3) ∧ Aside0 (Below W0.heap.size W0 w')) (ds := []) #[false, false, false, false, false, false, false, false, false, false, false, false, false, false, false, false, false, false, false] (by kernel_rfl) rfl rfl (keep0.out _ (below_drew (Below.refl _ _))) (fun hHeld => ?_)
      refine takeP #[true, false, false, false, false, false, false, false, false, false, false, false, false, false, false, false, false, false, false] (by kernel_rfl) hHeld (i := 0) (N := some 5) ?_
      refine one_ (i := 1) (N := some 6) #[true, true, false, false, false, false, false, false, false, false, false, false, false, false, false, false, false, false, false] rfl rfl (by kernel_rfl) (by decide) (fun K hK => ?_)
      refine goes_ Try.func44 (by kernel_rfl) rfl #[.agg #[.int .i64 c.f0, .int .i64 c.f1, .float .f64 c.f2, .string c.f3]] (by rfl) rfl rfl (by (try simp only [List.map_toArray, List.map_cons, List.map_nil]); first | done | rfl) ?_
      refine (hM.out _).mono ?_
      rintro e w2 ⟨rfl, hb2⟩
      refine ⟨_, rfl, ?_⟩
      have hb3 : Below W0.heap.size W0 w2 := below_then (below_drew (Below.refl _ _)) (Nat.le_refl _) hb2
      have HB3 := Aside0.mk (below_then hB0.out hB0.out.size hb3)
      refine hK.out _ _ (keep0.out _ hb3) (fun hHeld => ?_)
      clear hb2 hb3
      clear hK K
      refine norm_ (a' := ?_) ?_ ?_
      rotate_left
      · show Act.put _ (some 6) _ = _
        simp only [Act.put, List.setIfInBounds_toArray, List.set_cons_zero, List.set_cons_succ, i64_w, i32_w]
        rfl
      refine pureP #[true, true, true, false, false, false, false, false, false, false, false, false, false, false, false, false, false, false, false] (by kernel_rfl) (i := 2) (N := some 7) ?_
      refine pureP #[true, true, true, true, false, false, false, false, false, false, false, false, false, false, false, false, false, false, false] (by kernel_rfl) (i := 3) (N := some 8) ?_
      refine pureP #[true, true, true, true, true, false, false, false, false, false, false, false, false, false, false, false, false, false, false] (by kernel_rfl) (i := 4) (N := some 9) ?_
      refine takeP #[true, true, true, true, true, true, false, false, false, false, false, false, false, false, false, false, false, false, false] (by kernel_rfl) hHeld (i := 5) (N := some 10) ?_
      refine pureP #[true, true, true, true, true, true, true, false, false, false, false, false, false, false, false, false, false, false, false] (by kernel_rfl) (i := 6) (N := some 11) ?_
      refine pureP #[true, true, true, true, true, true, true, true, false, false, false, false, false, false, false, false, false, false, false] (by kernel_rfl) (i := 7) (N := some 12) ?_
      refine pureP #[true, true, true, true, true, true, true, true, true, false, false, false, false, false, false, false, false, false, false] (by kernel_rfl) (i := 8) (N := some 13) ?_
      refine pureP #[true, true, true, true, true, true, true, true, true, true, false, false, false, false, false, false, false, false, false] (by kernel_rfl) (i := 9) (N := some 14) ?_
      refine takeP #[true, true, true, true, true, true, true, true, true, true, true, false, false, false, false, false, false, false, false] (by kernel_rfl) hHeld (i := 10) (N := some 15) ?_
      refine takeP #[true, true, true, true, true, true, true, true, true, true, true, true, false, false, false, false, false, false, false] (by kernel_rfl) hHeld (i := 11) (N := some 16) ?_
      refine takeP #[true, true, true, true, true, true, true, true, true, true, true, true, true, false, false, false, false, false, false] (by kernel_rfl) hHeld (i := 12) (N := some 17) ?_
      refine pureP #[true, true, true, true, true, true, true, true, true, true, true, true, true, true, false, false, false, false, false] (by kernel_rfl) (i := 13) (N := some 18) ?_
      refine pureP #[true, true, true, true, true, true, true, true, true, true, true, true, true, true, true, false, false, false, false] (by kernel_rfl) (i := 14) (N := some 19) ?_
      refine takeP #[true, true, true, true, true, true, true, true, true, true, true, true, true, true, true, true, false, false, false] (by kernel_rfl) hHeld (i := 15) (N := some 20) ?_
      refine pureP #[true, true, true, true, true, true, true, true, true, true, true, true, true, true, true, true, true, false, false] (by kernel_rfl) (i := 16) (N := some 21) ?_
      refine pureP #[true, true, true, true, true, true, true, true, true, true, true, true, true, true, true, true, true, true, false] (by kernel_rfl) (i := 17) (N := some 22) ?_
      refine pureP #[true, true, true, true, true, true, true, true, true, true, true, true, true, true, true, true, true, true, true] (by kernel_rfl) (i := 18) (N := some 4) ?_
      refine done_ (by kernel_rfl) ?_
      try go_wp2
      go_ret
      exact ⟨by first | rfl | simp_all, HB3.out⟩
  · rw [if_neg hb] at H1
    obtain rfl := Option.some.inj H1
    clear H1 H
    obtain rfl : b = false := by simpa using hb
    clear hb
    refine start_ (n := 19) (S := fun w' => w'.cell? ⟨g1, 0, none⟩ = some (.slice (some ad) cols.length c0) ∧ w'.cell? ⟨g2, 0, none⟩ = some (.int .i64 at_) ∧ w'.cell? ⟨(ad.add (at_.toNat * 3)).block, (ad.add (at_.toNat * 3)).off + 1, none⟩ = some (.int .i64 d.f1) ∧ w'.cell? ⟨w.heap.size, 0, none⟩ = some (.int .i64 c.f0) ∧ w'.cell? ⟨w.heap.size, 1, none⟩ = some (.int .i64 c.f1) ∧ w'.cell? ⟨w.heap.size, 2, none⟩ = some (.float .f64 c.f2) ∧ w'.cell? ⟨w.heap.size, 3, none⟩ = some (.string c.f3) ∧ Aside0 (Below W0.heap.size W0 w')) (ds := []) #[false, false, false, false, false, false, false, false, false, false, false, false, false, false, false, false, false, false, false] (by kernel_rfl) rfl rfl (keep0.out _ (below_drew (Below.refl _ _))) (fun hHeld => ?_)
    refine takeP #[true, false, false, false, false, false, false, false, false, false, false, false, false, false, false, false, false, false, false] (by kernel_rfl) hHeld (i := 0) (N := some 5) ?_
    refine one_ (i := 1) (N := some 6) #[true, true, false, false, false, false, false, false, false, false, false, false, false, false, false, false, false, false, false] rfl rfl (by kernel_rfl) (by decide) (fun K hK => ?_)
    refine goes_ Try.func44 (by kernel_rfl) rfl #[.agg #[.int .i64 c.f0, .int .i64 c.f1, .float .f64 c.f2, .string c.f3]] (by rfl) rfl rfl (by (try simp only [List.map_toArray, List.map_cons, List.map_nil]); first | done | rfl) ?_
    refine (hM.out _).mono ?_
    rintro e w2 ⟨rfl, hb2⟩
    refine ⟨_, rfl, ?_⟩
    have hb3 : Below W0.heap.size W0 w2 := below_then (below_drew (Below.refl _ _)) (Nat.le_refl _) hb2
    have HB3 := Aside0.mk (below_then hB0.out hB0.out.size hb3)
    refine hK.out _ _ (keep0.out _ hb3) (fun hHeld => ?_)
    clear hb2 hb3
    clear hK K
    refine norm_ (a' := ?_) ?_ ?_
    rotate_left
    · show Act.put _ (some 6) _ = _
      simp only [Act.put, List.setIfInBounds_toArray, List.set_cons_zero, List.set_cons_succ, i64_w, i32_w]
      rfl
    refine pureP #[true, true, true, false, false, false, false, false, false, false, false, false, false, false, false, false, false, false, false] (by kernel_rfl) (i := 2) (N := some 7) ?_
    refine pureP #[true, true, true, true, false, false, false, false, false, false, false, false, false, false, false, false, false, false, false] (by kernel_rfl) (i := 3) (N := some 8) ?_
    refine pureO #[true, true, true, true, true, false, false, false, false, false, false, false, false, false, false, false, false, false, false] (by kernel_rfl) (i := 4) (N := some 9) ?_
    refine pureO #[true, true, true, true, true, true, false, false, false, false, false, false, false, false, false, false, false, false, false] (by kernel_rfl) (i := 5) (N := some 10) ?_
    refine pureO #[true, true, true, true, true, true, true, false, false, false, false, false, false, false, false, false, false, false, false] (by kernel_rfl) (i := 6) (N := some 11) ?_
    refine pureP #[true, true, true, true, true, true, true, true, false, false, false, false, false, false, false, false, false, false, false] (by kernel_rfl) (i := 7) (N := some 12) ?_
    refine pureP #[true, true, true, true, true, true, true, true, true, false, false, false, false, false, false, false, false, false, false] (by kernel_rfl) (i := 8) (N := some 13) ?_
    refine pureO #[true, true, true, true, true, true, true, true, true, true, false, false, false, false, false, false, false, false, false] (by kernel_rfl) (i := 9) (N := some 14) ?_
    refine pureO #[true, true, true, true, true, true, true, true, true, true, true, false, false, false, false, false, false, false, false] (by kernel_rfl) (i := 10) (N := some 15) ?_
    refine pureO #[true, true, true, true, true, true, true, true, true, true, true, true, false, false, false, false, false, false, false] (by kernel_rfl) (i := 11) (N := some 16) ?_
    refine pureO #[true, true, true, true, true, true, true, true, true, true, true, true, true, false, false, false, false, false, false] (by kernel_rfl) (i := 12) (N := some 17) ?_
    refine pureO #[true, true, true, true, true, true, true, true, true, true, true, true, true, true, false, false, false, false, false] (by kernel_rfl) (i := 13) (N := some 18) ?_
    refine pureO #[true, true, true, true, true, true, true, true, true, true, true, true, true, true, true, false, false, false, false] (by kernel_rfl) (i := 14) (N := some 19) ?_
    refine pureO #[true, true, true, true, true, true, true, true, true, true, true, true, true, true, true, true, false, false, false] (by kernel_rfl) (i := 15) (N := some 20) ?_
    refine pureO #[true, true, true, true, true, true, true, true, true, true, true, true, true, true, true, true, true, false, false] (by kernel_rfl) (i := 16) (N := some 21) ?_
    refine pureP #[true, true, true, true, true, true, true, true, true, true, true, true, true, true, true, true, true, true, false] (by kernel_rfl) (i := 17) (N := some 22) ?_
    refine pureP #[true, true, true, true, true, true, true, true, true, true, true, true, true, true, true, true, true, true, true] (by kernel_rfl) (i := 18) (N := some 4) ?_
    refine done_ (by kernel_rfl) ?_
    try go_wp2
    go_ret
    exact ⟨by first | rfl | simp_all, HB3.out⟩
end Go.Proofs.Ytkedejphebfneaa.Pa
end
