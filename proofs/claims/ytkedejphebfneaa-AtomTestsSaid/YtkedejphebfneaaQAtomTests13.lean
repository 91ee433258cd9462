/- AtomTests: the row, out of the law's walk and its plain law. -/
import Derived.Test.YtkedejphebfneaaQAtomTests2
import Derived.Test.YtkedejphebfneaaQAtomTests5
import Derived.Test.YtkedejphebfneaaQAtomTests6
import Derived.Test.YtkedejphebfneaaQAtomTests9
import Derived.Test.YtkedejphebfneaaQAtomTests12
import Derived.Lib.Bytealg
import Derived.Test.YtkedejphebfneaaQAtomTests4
import Derived.Test.YtkedejphebfneaaRows
import Derived.WalkKit
import Derived.ProofKit
import Derived.OpenShut
import Derived.ShutString
import Derived.ChangeOld
import Derived.Below
import Derived.SizedLaws
section
-- Written by xprint.py, a program of this session, over the kit's print. Not trusted: Lean checks it.
namespace Go.Proofs.Ytkedejphebfneaa.Pa
open Go.RowKit Go.Proofs.YtkedejphebfneaaW.PrintWords Go.Proofs.YtkedejphebfneaaW.PrintLast Go.Proofs.YtkedejphebfneaaW.PrintMore
attribute [local go_sem] max2_int min2_int max_two min_two max_three min_three max_four min_four   -- for this text's walks alone
attribute [local go_sem] run_store_float cmp_feq cmp_fne cmp_flt cmp_fle cmp_fgt cmp_fge un_fneg equalIn_feq run_fop run_fint run_freal cmp_sgt ext_bits ext_frombits ext_cmpb
set_option linter.unusedVariables false
set_option linter.unusedSimpArgs false

/-! ### colonnadelaw18_AtomTests: function 5 -/
def colonnadelaw18_AtomTests.f (k : Nat) (a0_0 : Int) (a0_1 : ByteArray) (a0_2 : Int) (a0_3 : Int) (a0_4 : Int) (a0_5 : Nat) (a0_6 : ByteArray) (l0_7 : List (S28)) (l0_8 : List (S32)) (a1_0 : Int) (a1_1 : Int) (a1_2 : Nat) (a1_3 : ByteArray) : Option (Bool) := (colonnaderef00_Pred.f k a0_0 a0_1 a0_2 a0_3 a0_4 a0_5 a0_6 l0_7 l0_8).bind fun t284 => (if t284 = true then (some true) else ((colonnaderef18_Test.f k a0_0 a0_1 a0_2 a0_3 a0_4 a0_5 a0_6 l0_7 l0_8 a1_0 a1_1 a1_2 a1_3).bind fun t285 => ((colonnadelaw18_twin.f a0_0 a0_1 a0_2 a0_3 a0_4 a0_5 a0_6 l0_7 l0_8).bind fun bt286 => ((atom_Test.f k bt286.1 bt286.2.1 bt286.2.2.1 bt286.2.2.2.1 bt286.2.2.2.2.1 bt286.2.2.2.2.2.1 bt286.2.2.2.2.2.2.1 bt286.2.2.2.2.2.2.2.1 bt286.2.2.2.2.2.2.2.2 a1_0 a1_1 a1_2 a1_3).bind fun t299 => (if t299 = t285 then ((colonnadelaw18_known.f k).bind fun t300 => (some t300)) else (some false))))))
theorem colonnadelaw18_AtomTests.mono : ∀ a0 a1 a2 a3 a4 a5 a6 a7 a8 a9 a10 a11 a12 k, LeO (colonnadelaw18_AtomTests.f k a0 a1 a2 a3 a4 a5 a6 a7 a8 a9 a10 a11 a12) (colonnadelaw18_AtomTests.f (k + 1) a0 a1 a2 a3 a4 a5 a6 a7 a8 a9 a10 a11 a12) := by
  intro a0 a1 a2 a3 a4 a5 a6 a7 a8 a9 a10 a11 a12 k
  unfold colonnadelaw18_AtomTests.f
  repeat' first
      | (with_reducible exact atom_Test.mono _ _ _ _ _ _ _ _ _ _ _ _ _ _)
      | (with_reducible exact colonnadelaw18_known.mono _)
      | (with_reducible exact colonnaderef00_Pred.mono _ _ _ _ _ _ _ _ _ _)
      | (with_reducible exact colonnaderef18_Test.mono _ _ _ _ _ _ _ _ _ _ _ _ _ _)
      | (with_reducible exact LeO.refl _)
      | (with_reducible exact LeO.none _)
      | (with_reducible refine LeO.ite ?_ ?_)
      | (with_reducible refine LeO.bind ?_ (fun _ => ?_))
      | exact atom_Test.mono _ _ _ _ _ _ _ _ _ _ _ _ _ _
      | exact colonnadelaw18_known.mono _
      | exact colonnaderef00_Pred.mono _ _ _ _ _ _ _ _ _ _
      | exact colonnaderef18_Test.mono _ _ _ _ _ _ _ _ _ _ _ _ _ _
      | exact LeO.none _
      | refine LeO.ite ?_ ?_
      | refine LeO.bind ?_ (fun _ => ?_)
def colonnadelaw18_AtomTests.T4 : Bool × List (List Nat × List Nat) := (true, [([], []), ([0], [0]), ([], []), ([1, 2, 1], [1, 2]), ([], []), ([3, 4], [3, 4]), ([5, 3], [5]), ([6, 6], [6]), ([6, 7], [6, 7]), ([8, 7, 0, 1, 2, 3, 4, 5, 6, 7, 8], [8])])
def colonnadelaw18_AtomTests.B4 : List Nat := [0, 1, 0, 7, 0, 31, 63, 127, 255, 511]
theorem colonnadelaw18_AtomTests.tab4 : rtab .any (opsOf Try.f5 4) = colonnadelaw18_AtomTests.T4 := by kernel_rfl
theorem colonnadelaw18_AtomTests.bits4 : waitsOk colonnadelaw18_AtomTests.T4.2 colonnadelaw18_AtomTests.B4 = true := by kernel_rfl
set_option maxHeartbeats 8000000 in
set_option maxRecDepth 100000 in
theorem colonnadelaw18_AtomTests.calls (k : Nat) (a0_0 : Int) (a0_1 : ByteArray) (a0_2 : Int) (a0_3 : Int) (a0_4 : Int) (a0_5 : Nat) (a0_6 : ByteArray) (A0_7 : Option Addr) (c0_7 : Nat) (l0_7 : List (S28)) (A0_8 : Option Addr) (c0_8 : Nat) (l0_8 : List (S32)) (a1_0 : Int) (a1_1 : Int) (a1_2 : Nat) (a1_3 : ByteArray) (r : Bool) (w : World) (hr0_7 : Kd.C k28 w A0_7 l0_7.length l0_7) (hc0_7 : l0_7.length ≤ c0_7) (hr0_8 : Kd.C k32 w A0_8 l0_8.length l0_8) (hc0_8 : l0_8.length ≤ c0_8) (h : colonnadelaw18_AtomTests.f k a0_0 a0_1 a0_2 a0_3 a0_4 a0_5 a0_6 l0_7 l0_8 a1_0 a1_1 a1_2 a1_3 = some r) (htrue : Aside0 (r = true)) :
    Calls Try.prog 5 #[.agg #[.int .i64 a0_0, .string a0_1, .int .i64 a0_2, .int .i64 a0_3, .int .i64 a0_4, .float .f64 a0_5, .string a0_6, .slice A0_7 l0_7.length c0_7, .slice A0_8 l0_8.length c0_8], .agg #[.int .i64 a1_0, .int .i64 a1_1, .float .f64 a1_2, .string a1_3]] w fun e w' => e = .returned (.bool r) ∧ Below w.heap.size w w' := by
  have hu32 := Try.underlying32
  have hu28 := Try.underlying28
  have HR0_7 := Aside0.mk hr0_7
  have HC0_7 := Aside0.mk hc0_7
  clear hr0_7 hc0_7
  have HR0_8 := Aside0.mk hr0_8
  have HC0_8 := Aside0.mk hc0_8
  clear hr0_8 hc0_8
  have HB := Aside0.mk (Below.refl w.heap.size w)
  have H : ((colonnaderef00_Pred.f k a0_0 a0_1 a0_2 a0_3 a0_4 a0_5 a0_6 l0_7 l0_8).bind fun t284 => (if t284 = true then (some true) else ((colonnaderef18_Test.f k a0_0 a0_1 a0_2 a0_3 a0_4 a0_5 a0_6 l0_7 l0_8 a1_0 a1_1 a1_2 a1_3).bind fun t285 => ((colonnadelaw18_twin.f a0_0 a0_1 a0_2 a0_3 a0_4 a0_5 a0_6 l0_7 l0_8).bind fun bt286 => ((atom_Test.f k bt286.1 bt286.2.1 bt286.2.2.1 bt286.2.2.2.1 bt286.2.2.2.2.1 bt286.2.2.2.2.2.1 bt286.2.2.2.2.2.2.1 bt286.2.2.2.2.2.2.2.1 bt286.2.2.2.2.2.2.2.2 a1_0 a1_1 a1_2 a1_3).bind fun t299 => (if t299 = t285 then ((colonnadelaw18_known.f k).bind fun t300 => (some t300)) else (some false))))))) = some r := h
  clear h
  replace H := Option.bind_eq_some_iff.mp H
  obtain ⟨t284, A30, H⟩ := H
  replace H : (if t284 = true then (some true) else ((colonnaderef18_Test.f k a0_0 a0_1 a0_2 a0_3 a0_4 a0_5 a0_6 l0_7 l0_8 a1_0 a1_1 a1_2 a1_3).bind fun t285 => ((colonnadelaw18_twin.f a0_0 a0_1 a0_2 a0_3 a0_4 a0_5 a0_6 l0_7 l0_8).bind fun bt286 => ((atom_Test.f k bt286.1 bt286.2.1 bt286.2.2.1 bt286.2.2.2.1 bt286.2.2.2.2.1 bt286.2.2.2.2.2.1 bt286.2.2.2.2.2.2.1 bt286.2.2.2.2.2.2.2.1 bt286.2.2.2.2.2.2.2.2 a1_0 a1_1 a1_2 a1_3).bind fun t299 => (if t299 = t285 then ((colonnadelaw18_known.f k).bind fun t300 => (some t300)) else (some false)))))) = some r := H
  have A3 := Aside0.mk A30
  clear A30
  by_cases c4 : t284 = true
  · subst c4
    have H1 : (some true) = some r := by rw [if_pos rfl] at H; exact H
    clear H
    have H := H1
    clear H1
    obtain rfl := Option.some.inj H
    go_enter Try.func5, Try.ntmps5
    go_wp2_with (first | ((with_reducible refine gate_dst (N := 2) rfl ?_); refine box_event ?hg (N := 2) ?hd (cs := #[.int .i64 a0_0, .string a0_1, .int .i64 a0_2, .int .i64 a0_3, .int .i64 a0_4, .float .f64 a0_5, .string a0_6, .slice A0_7 l0_7.length c0_7, .slice A0_8 l0_8.length c0_8]) (t := 32) ?hr ?_; (case hd => rfl); (case hg => rfl); (case hr => first | (go_simp; done) | (go_simp; rfl)); intro gb282 hg w5 hbox hb; have n0_ := Aside0.mk (below_step (by repeat (first | (with_reducible first | exact HB.out | apply below_alloc | apply pw_below_drewN | apply below_drew1) | exact HB.out)) hb); have n1_ := Aside0.mk (hbox); have n2_ := Aside0.mk ((by rw [hg]; exact (below_size (by repeat (first | (with_reducible first | exact HB.out | apply below_alloc | apply pw_below_drewN | apply below_drew1) | exact HB.out))) : w.heap.size ≤ gb282)); have n3_ := Aside0.mk ((by rw [hg]; exact (below_size (by repeat (first | (with_reducible first | exact HB.out | apply below_alloc | apply pw_below_drewN | apply below_drew1) | exact HB.out))) : w.heap.size ≤ gb282)); clear HB; have HB := n0_; have BK282 := n1_; have GW282 := n2_; have GE282 := n3_; clear n0_ n1_ n2_ n3_; clear hb hbox hg) | ((with_reducible refine gate_dst (N := 3) rfl ?_); refine box_event ?hg (N := 3) ?hd (cs := #[.int .i64 a1_0, .int .i64 a1_1, .float .f64 a1_2, .string a1_3]) (t := 28) ?hr ?_; (case hd => rfl); (case hg => rfl); (case hr => first | (go_simp; done) | (go_simp; rfl)); intro gb283 hg w6 hbox hb; have n0_ := blkS BK282 hb; have n1_ := Aside0.mk (below_step (by repeat (first | (with_reducible first | exact HB.out | apply below_alloc | apply pw_below_drewN | apply below_drew1 | refine below_set ?_ GE282.out) | exact HB.out)) hb); have n2_ := Aside0.mk (hbox); have n3_ := Aside0.mk ((by rw [hg]; exact (below_size (by repeat (first | (with_reducible first | exact HB.out | apply below_alloc | apply pw_below_drewN | apply below_drew1 | refine below_set ?_ GE282.out) | exact HB.out))) : w.heap.size ≤ gb283)); have n4_ := Aside0.mk ((by rw [hg]; exact (below_size (by repeat (first | (with_reducible first | exact HB.out | apply below_alloc | apply pw_below_drewN | apply below_drew1 | refine below_set ?_ GE282.out) | exact HB.out))) : w.heap.size ≤ gb283)); have n5_ := Aside0.mk ((by rw [hg]; exact Nat.ne_of_lt (blk_lt (g := gb282) (o := .cells #[.int .i64 a0_0, .string a0_1, .int .i64 a0_2, .int .i64 a0_3, .int .i64 a0_4, .float .f64 a0_5, .string a0_6, .slice A0_7 l0_7.length c0_7, .slice A0_8 l0_8.length c0_8] 32 (0, 0)) (by (with_reducible repeat (first | refine blk_drewN ?_ _ | refine blk_drew ?_ | refine blk_alloc ?_ _)); exact BK282.out)) : gb282 ≠ gb283)); have n6_ := Aside0.mk ((by rw [hg]; exact Nat.ne_of_gt (blk_lt (g := gb282) (o := .cells #[.int .i64 a0_0, .string a0_1, .int .i64 a0_2, .int .i64 a0_3, .int .i64 a0_4, .float .f64 a0_5, .string a0_6, .slice A0_7 l0_7.length c0_7, .slice A0_8 l0_8.length c0_8] 32 (0, 0)) (by (with_reducible repeat (first | refine blk_drewN ?_ _ | refine blk_drew ?_ | refine blk_alloc ?_ _)); exact BK282.out)) : gb283 ≠ gb282)); clear BK282; clear HB; have BK282 := n0_; have HB := n1_; have BK283 := n2_; have GW283 := n3_; have GE283 := n4_; have NB282_283 := n5_; have NB283_282 := n6_; clear n0_ n1_ n2_ n3_ n4_ n5_ n6_; clear hb hbox hg; have hnb7 := NB282_283.out; have hnc7 := NB283_282.out; obtain ⟨hcz8_0, hcz8_1, hcz8_2, hcz8_3, hcz8_4, hcz8_5, hcz8_6, hcz8_7, hcz8_8⟩ := cells_9 BK282.out; obtain ⟨hfz8_0, hfz8_1, hfz8_2, hfz8_3, hfz8_4, hfz8_5, hfz8_6, hfz8_7, hfz8_8⟩ := froz_9 BK282.out) | ((with_reducible refine gate_callee (f := 16) rfl ?_); refine goesL_ (some 7) rfl rfl Try.func16 (by kernel_rfl) rfl #[.agg #[.int .i64 a0_0, .string a0_1, .int .i64 a0_2, .int .i64 a0_3, .int .i64 a0_4, .float .f64 a0_5, .string a0_6, .slice A0_7 l0_7.length c0_7, .slice A0_8 l0_8.length c0_8]] rfl (by (try simp only [List.map_toArray, List.map_cons, List.map_nil]); first | done | rfl | (simp only [List.length_drop, List.length_take]; rfl)) ?_; (with_reducible refine (colonnaderef00_Pred.calls k a0_0 a0_1 a0_2 a0_3 a0_4 a0_5 a0_6 _ _ l0_7 _ _ l0_8 true _ ?side1 ?side2 ?side3 ?side4 A3.out).mono ?_); (case side1 => repeat (first | exact (Kd.C_below HR0_7.out HB.out) | (with_reducible refine Kd.C_alloc ?_ _) | (with_reducible refine Kd.C_drewN ?_ _) | (with_reducible refine Kd.C_drew ?_))); (case side2 => exact HC0_7.out); (case side3 => repeat (first | exact (Kd.C_below HR0_8.out HB.out) | (with_reducible refine Kd.C_alloc ?_ _) | (with_reducible refine Kd.C_drewN ?_ _) | (with_reducible refine Kd.C_drew ?_))); (case side4 => exact HC0_8.out); rintro e w9 ⟨rfl, hb⟩; refine ⟨_, rfl, ?_⟩; have n0_ := blkS BK282 hb; have n1_ := blkS BK283 hb; have n2_ := Aside0.mk (below_step (by repeat (first | (with_reducible first | exact HB.out | apply below_alloc | apply pw_below_drewN | apply below_drew1 | refine below_set ?_ GE282.out | refine below_set ?_ GE283.out) | exact HB.out)) hb); clear BK282; clear BK283; clear HB; have BK282 := n0_; have BK283 := n1_; have HB := n2_; clear n0_ n1_ n2_; (try clear hb); (try clear hb2); (try clear hk); (try clear hi)))
    go_ret
    exact ⟨by first | rfl | (simp [errW_none, errW_some] <;> rfl) | (simp [*, errW_none, errW_some] <;> rfl), by repeat (first | (with_reducible first | exact HB.out | apply below_alloc | apply pw_below_drewN | apply below_drew1 | refine below_set ?_ GE282.out | refine below_set ?_ GE283.out) | exact HB.out)⟩
  · replace c4 := Bool.eq_false_iff.mpr c4
    subst c4
    have H1 : ((colonnaderef18_Test.f k a0_0 a0_1 a0_2 a0_3 a0_4 a0_5 a0_6 l0_7 l0_8 a1_0 a1_1 a1_2 a1_3).bind fun t285 => ((colonnadelaw18_twin.f a0_0 a0_1 a0_2 a0_3 a0_4 a0_5 a0_6 l0_7 l0_8).bind fun bt286 => ((atom_Test.f k bt286.1 bt286.2.1 bt286.2.2.1 bt286.2.2.2.1 bt286.2.2.2.2.1 bt286.2.2.2.2.2.1 bt286.2.2.2.2.2.2.1 bt286.2.2.2.2.2.2.2.1 bt286.2.2.2.2.2.2.2.2 a1_0 a1_1 a1_2 a1_3).bind fun t299 => (if t299 = t285 then ((colonnadelaw18_known.f k).bind fun t300 => (some t300)) else (some false))))) = some r := by rw [if_neg (show ¬ (false = true) by decide)] at H; exact H
    clear H
    have H := H1
    clear H1
    replace H := Option.bind_eq_some_iff.mp H
    obtain ⟨t285, A100, H⟩ := H
    replace H : ((colonnadelaw18_twin.f a0_0 a0_1 a0_2 a0_3 a0_4 a0_5 a0_6 l0_7 l0_8).bind fun bt286 => ((atom_Test.f k bt286.1 bt286.2.1 bt286.2.2.1 bt286.2.2.2.1 bt286.2.2.2.2.1 bt286.2.2.2.2.2.1 bt286.2.2.2.2.2.2.1 bt286.2.2.2.2.2.2.2.1 bt286.2.2.2.2.2.2.2.2 a1_0 a1_1 a1_2 a1_3).bind fun t299 => (if t299 = t285 then ((colonnadelaw18_known.f k).bind fun t300 => (some t300)) else (some false)))) = some r := H
    have A10 := Aside0.mk A100
    clear A100
    replace H := Option.bind_eq_some_iff.mp H
    obtain ⟨⟨t286, t287, t288, t289, t290, t291, t292, t293, t296⟩, A110, H⟩ := H
    replace H : ((atom_Test.f k t286 t287 t288 t289 t290 t291 t292 t293 t296 a1_0 a1_1 a1_2 a1_3).bind fun t299 => (if t299 = t285 then ((colonnadelaw18_known.f k).bind fun t300 => (some t300)) else (some false))) = some r := H
    have A11 := Aside0.mk A110
    clear A110
    replace H := Option.bind_eq_some_iff.mp H
    obtain ⟨t299, A120, H⟩ := H
    replace H : (if t299 = t285 then ((colonnadelaw18_known.f k).bind fun t300 => (some t300)) else (some false)) = some r := H
    have A12 := Aside0.mk A120
    clear A120
    by_cases c13 : t299 = t285
    · rw [if_pos c13] at H
      have c13b0 : (t299 == t285) = true := beq_iff_eq.mpr c13
      have c13b1 : (t299 != t285) = false := bne_eq_false_iff_eq.mpr c13
      clear c13
      replace H := Option.bind_eq_some_iff.mp H
      obtain ⟨t300, A140, H⟩ := H
      replace H : (some t300) = some r := H
      have A14 := Aside0.mk A140
      clear A140
      obtain rfl := Option.some.inj H
      go_enter Try.func5, Try.ntmps5
      try go_wp2_with (first | ((with_reducible refine gate_dst (N := 2) rfl ?_); refine box_event ?hg (N := 2) ?hd (cs := #[.int .i64 a0_0, .string a0_1, .int .i64 a0_2, .int .i64 a0_3, .int .i64 a0_4, .float .f64 a0_5, .string a0_6, .slice A0_7 l0_7.length c0_7, .slice A0_8 l0_8.length c0_8]) (t := 32) ?hr ?_; (case hd => rfl); (case hg => rfl); (case hr => first | (go_simp; done) | (go_simp; rfl)); intro gb282 hg w15 hbox hb; have n0_ := Aside0.mk (below_step (by repeat (first | (with_reducible first | exact HB.out | apply below_alloc | apply pw_below_drewN | apply below_drew1) | exact HB.out)) hb); have n1_ := Aside0.mk (hbox); have n2_ := Aside0.mk ((by rw [hg]; exact (below_size (by repeat (first | (with_reducible first | exact HB.out | apply below_alloc | apply pw_below_drewN | apply below_drew1) | exact HB.out))) : w.heap.size ≤ gb282)); have n3_ := Aside0.mk ((by rw [hg]; exact (below_size (by repeat (first | (with_reducible first | exact HB.out | apply below_alloc | apply pw_below_drewN | apply below_drew1) | exact HB.out))) : w.heap.size ≤ gb282)); clear HB; have HB := n0_; have BK282 := n1_; have GW282 := n2_; have GE282 := n3_; clear n0_ n1_ n2_ n3_; clear hb hbox hg) | ((with_reducible refine gate_dst (N := 3) rfl ?_); refine box_event ?hg (N := 3) ?hd (cs := #[.int .i64 a1_0, .int .i64 a1_1, .float .f64 a1_2, .string a1_3]) (t := 28) ?hr ?_; (case hd => rfl); (case hg => rfl); (case hr => first | (go_simp; done) | (go_simp; rfl)); intro gb283 hg w16 hbox hb; have n0_ := blkS BK282 hb; have n1_ := Aside0.mk (below_step (by repeat (first | (with_reducible first | exact HB.out | apply below_alloc | apply pw_below_drewN | apply below_drew1 | refine below_set ?_ GE282.out) | exact HB.out)) hb); have n2_ := Aside0.mk (hbox); have n3_ := Aside0.mk ((by rw [hg]; exact (below_size (by repeat (first | (with_reducible first | exact HB.out | apply below_alloc | apply pw_below_drewN | apply below_drew1 | refine below_set ?_ GE282.out) | exact HB.out))) : w.heap.size ≤ gb283)); have n4_ := Aside0.mk ((by rw [hg]; exact (below_size (by repeat (first | (with_reducible first | exact HB.out | apply below_alloc | apply pw_below_drewN | apply below_drew1 | refine below_set ?_ GE282.out) | exact HB.out))) : w.heap.size ≤ gb283)); have n5_ := Aside0.mk ((by rw [hg]; exact Nat.ne_of_lt (blk_lt (g := gb282) (o := .cells #[.int .i64 a0_0, .string a0_1, .int .i64 a0_2, .int .i64 a0_3, .int .i64 a0_4, .float .f64 a0_5, .string a0_6, .slice A0_7 l0_7.length c0_7, .slice A0_8 l0_8.length c0_8] 32 (0, 0)) (by (with_reducible repeat (first | refine blk_drewN ?_ _ | refine blk_drew ?_ | refine blk_alloc ?_ _)); exact BK282.out)) : gb282 ≠ gb283)); have n6_ := Aside0.mk ((by rw [hg]; exact Nat.ne_of_gt (blk_lt (g := gb282) (o := .cells #[.int .i64 a0_0, .string a0_1, .int .i64 a0_2, .int .i64 a0_3, .int .i64 a0_4, .float .f64 a0_5, .string a0_6, .slice A0_7 l0_7.length c0_7, .slice A0_8 l0_8.length c0_8] 32 (0, 0)) (by (with_reducible repeat (first | refine blk_drewN ?_ _ | refine blk_drew ?_ | refine blk_alloc ?_ _)); exact BK282.out)) : gb283 ≠ gb282)); clear BK282; clear HB; have BK282 := n0_; have HB := n1_; have BK283 := n2_; have GW283 := n3_; have GE283 := n4_; have NB282_283 := n5_; have NB283_282 := n6_; clear n0_ n1_ n2_ n3_ n4_ n5_ n6_; clear hb hbox hg; have hnb17 := NB282_283.out; have hnc17 := NB283_282.out; obtain ⟨hcz18_0, hcz18_1, hcz18_2, hcz18_3, hcz18_4, hcz18_5, hcz18_6, hcz18_7, hcz18_8⟩ := cells_9 BK282.out; obtain ⟨hfz18_0, hfz18_1, hfz18_2, hfz18_3, hfz18_4, hfz18_5, hfz18_6, hfz18_7, hfz18_8⟩ := froz_9 BK282.out) | ((with_reducible refine gate_callee (f := 16) rfl ?_); refine goesL_ (some 7) rfl rfl Try.func16 (by kernel_rfl) rfl #[.agg #[.int .i64 a0_0, .string a0_1, .int .i64 a0_2, .int .i64 a0_3, .int .i64 a0_4, .float .f64 a0_5, .string a0_6, .slice A0_7 l0_7.length c0_7, .slice A0_8 l0_8.length c0_8]] rfl (by (try simp only [List.map_toArray, List.map_cons, List.map_nil]); first | done | rfl | (simp only [List.length_drop, List.length_take]; rfl)) ?_; (with_reducible refine (colonnaderef00_Pred.calls k a0_0 a0_1 a0_2 a0_3 a0_4 a0_5 a0_6 _ _ l0_7 _ _ l0_8 false _ ?side1 ?side2 ?side3 ?side4 A3.out).mono ?_); (case side1 => repeat (first | exact (Kd.C_below HR0_7.out HB.out) | (with_reducible refine Kd.C_alloc ?_ _) | (with_reducible refine Kd.C_drewN ?_ _) | (with_reducible refine Kd.C_drew ?_))); (case side2 => exact HC0_7.out); (case side3 => repeat (first | exact (Kd.C_below HR0_8.out HB.out) | (with_reducible refine Kd.C_alloc ?_ _) | (with_reducible refine Kd.C_drewN ?_ _) | (with_reducible refine Kd.C_drew ?_))); (case side4 => exact HC0_8.out); rintro e w19 ⟨rfl, hb⟩; refine ⟨_, rfl, ?_⟩; have n0_ := blkS BK282 hb; have n1_ := blkS BK283 hb; have n2_ := Aside0.mk (below_step (by repeat (first | (with_reducible first | exact HB.out | apply below_alloc | apply pw_below_drewN | apply below_drew1 | refine below_set ?_ GE282.out | refine below_set ?_ GE283.out) | exact HB.out)) hb); clear BK282; clear BK283; clear HB; have BK282 := n0_; have BK283 := n1_; have HB := n2_; clear n0_ n1_ n2_; (try clear hb); (try clear hb2); (try clear hk); (try clear hi); obtain ⟨hcz20_0, hcz20_1, hcz20_2, hcz20_3, hcz20_4, hcz20_5, hcz20_6, hcz20_7, hcz20_8⟩ := cells_9 BK282.out; obtain ⟨hfz20_0, hfz20_1, hfz20_2, hfz20_3, hfz20_4, hfz20_5, hfz20_6, hfz20_7, hfz20_8⟩ := froz_9 BK282.out; obtain ⟨hcz21_0, hcz21_1, hcz21_2, hcz21_3⟩ := cells_4 BK283.out; obtain ⟨hfz21_0, hfz21_1, hfz21_2, hfz21_3⟩ := froz_4 BK283.out) | ((with_reducible refine gate_callee (f := 19) rfl ?_); refine goesL_ (some 10) rfl rfl Try.func19 (by kernel_rfl) rfl #[.agg #[.int .i64 a0_0, .string a0_1, .int .i64 a0_2, .int .i64 a0_3, .int .i64 a0_4, .float .f64 a0_5, .string a0_6, .slice A0_7 l0_7.length c0_7, .slice A0_8 l0_8.length c0_8], .agg #[.int .i64 a1_0, .int .i64 a1_1, .float .f64 a1_2, .string a1_3]] rfl (by (try simp only [List.map_toArray, List.map_cons, List.map_nil]); first | done | rfl | (simp only [List.length_drop, List.length_take]; rfl)) ?_; (with_reducible refine (colonnaderef18_Test.calls k a0_0 a0_1 a0_2 a0_3 a0_4 a0_5 a0_6 _ _ l0_7 _ _ l0_8 a1_0 a1_1 a1_2 a1_3 t285 _ ?side1 ?side2 ?side3 ?side4 A10.out).mono ?_); (case side1 => repeat (first | exact (Kd.C_below HR0_7.out HB.out) | (with_reducible refine Kd.C_alloc ?_ _) | (with_reducible refine Kd.C_drewN ?_ _) | (with_reducible refine Kd.C_drew ?_))); (case side2 => exact HC0_7.out); (case side3 => repeat (first | exact (Kd.C_below HR0_8.out HB.out) | (with_reducible refine Kd.C_alloc ?_ _) | (with_reducible refine Kd.C_drewN ?_ _) | (with_reducible refine Kd.C_drew ?_))); (case side4 => exact HC0_8.out); rintro e w22 ⟨rfl, hb⟩; refine ⟨_, rfl, ?_⟩; have n0_ := blkS BK282 hb; have n1_ := blkS BK283 hb; have n2_ := Aside0.mk (below_step (by repeat (first | (with_reducible first | exact HB.out | apply below_alloc | apply pw_below_drewN | apply below_drew1 | refine below_set ?_ GE282.out | refine below_set ?_ GE283.out) | exact HB.out)) hb); clear BK282; clear BK283; clear HB; have BK282 := n0_; have BK283 := n1_; have HB := n2_; clear n0_ n1_ n2_; (try clear hb); (try clear hb2); (try clear hk); (try clear hi)))
      have n0_ := Aside0.mk (blk_drew BK282.out)
      have n1_ := Aside0.mk (blk_drew BK283.out)
      have n2_ := Aside0.mk (below_drew1 HB.out)
      clear BK282
      clear BK283
      clear HB
      have BK282 := n0_
      have BK283 := n1_
      have HB := n2_
      clear n0_ n1_ n2_
      refine start_ (n := 10) (S := fun w' => w'.cell? ⟨gb282, 0, none⟩ = some (.int .i64 a0_0) ∧ w'.cell? ⟨gb282, 1, none⟩ = some (.string a0_1) ∧ w'.cell? ⟨gb282, 2, none⟩ = some (.int .i64 a0_2) ∧ w'.cell? ⟨gb282, 3, none⟩ = some (.int .i64 a0_3) ∧ w'.cell? ⟨gb282, 4, none⟩ = some (.int .i64 a0_4) ∧ w'.cell? ⟨gb282, 5, none⟩ = some (.float .f64 a0_5) ∧ w'.cell? ⟨gb282, 6, none⟩ = some (.string a0_6) ∧ w'.cell? ⟨gb282, 7, none⟩ = some (.slice A0_7 l0_7.length c0_7) ∧ w'.cell? ⟨gb282, 8, none⟩ = some (.slice A0_8 l0_8.length c0_8) ∧ w'.cell? ⟨gb283, 0, none⟩ = some (.int .i64 a1_0) ∧ w'.cell? ⟨gb283, 1, none⟩ = some (.int .i64 a1_1) ∧ w'.cell? ⟨gb283, 2, none⟩ = some (.float .f64 a1_2) ∧ w'.cell? ⟨gb283, 3, none⟩ = some (.string a1_3)) (ds := []) #[false, false, false, false, false, false, false, false, false, false] (by kernel_rfl) rfl rfl ⟨(blk_cell BK282.out 0).trans rfl, (blk_cell BK282.out 1).trans rfl, (blk_cell BK282.out 2).trans rfl, (blk_cell BK282.out 3).trans rfl, (blk_cell BK282.out 4).trans rfl, (blk_cell BK282.out 5).trans rfl, (blk_cell BK282.out 6).trans rfl, (blk_cell BK282.out 7).trans rfl, (blk_cell BK282.out 8).trans rfl, (blk_cell BK283.out 0).trans rfl, (blk_cell BK283.out 1).trans rfl, (blk_cell BK283.out 2).trans rfl, (blk_cell BK283.out 3).trans rfl⟩ (fun hHeld => ?_); refine with_tabW colonnadelaw18_AtomTests.tab4 colonnadelaw18_AtomTests.bits4 (fun HT_ HW_ => ?_)
      generalize w22.drew = w23 at BK282 BK283 HB hHeld ⊢
      refine pureP #[false, false, false, false, true, false, false, false, false, false] (any_of HT_.out (by kernel_rfl)) (i := 4) (N := some 15) ?_
      refine takeP #[true, false, false, false, true, false, false, false, false, false] (take_ofW HT_.out HW_.out (by kernel_rfl)) hHeld (i := 0) (N := some 11) ?_
      refine takeP #[true, false, true, false, true, false, false, false, false, false] (take_ofW HT_.out HW_.out (by kernel_rfl)) hHeld (i := 2) (N := some 13) ?_
      refine one_ (i := 1) (N := some 12) #[true, true, true, false, true, false, false, false, false, false] rfl rfl (one_of HT_.out (by kernel_rfl)) (by decide) (fun K hK => ?_)
      refine goes_ Try.func18 (by kernel_rfl) rfl #[.agg #[.int .i64 a0_0, .string a0_1, .int .i64 a0_2, .int .i64 a0_3, .int .i64 a0_4, .float .f64 a0_5, .string a0_6, .slice A0_7 l0_7.length c0_7, .slice A0_8 l0_8.length c0_8]] (by rfl) rfl rfl (by (try simp only [List.map_toArray, List.map_cons, List.map_nil]); first | done | rfl | (simp only [List.length_drop, List.length_take]; rfl)) ?_
      with_reducible refine (colonnadelaw18_twin.calls a0_0 a0_1 a0_2 a0_3 a0_4 a0_5 a0_6 _ _ l0_7 (fun k_ => k_ < w.heap.size) _ _ l0_8 t286 t287 t288 t289 t290 t291 t292 t293 t296 _ ?side1 ?side2 ?side3 A11.out).mono ?_
      (case side1 => repeat (first | exact (Kd.C_below HR0_7.out HB.out) | (with_reducible refine Kd.C_alloc ?_ _) | (with_reducible refine Kd.C_drewN ?_ _) | (with_reducible refine Kd.C_drew ?_)))
      (case side2 => exact HC0_7.out)
      (case side3 => exact Kd.V_mk HC0_8.out (Kd.F_below (Kd.C_F k32_heap HR0_8.out) (by repeat (first | (with_reducible first | exact HB.out | apply below_alloc | apply pw_below_drewN | apply below_drew1 | refine below_set ?_ GE282.out | refine below_set ?_ GE283.out) | exact HB.out))))
      rintro e w24 ⟨v294, v297, rfl, ho0, ho1, hb⟩
      refine ⟨_, rfl, ?_⟩
      have n0_ := Aside0.mk (Kd.R_lower (Kd.R_newB (Kd.R_mono (ok' := fun k_ => True) ho0 (fun _ hk_ => trivial)) (g := gb283) (o := .cells #[.int .i64 a1_0, .int .i64 a1_1, .float .f64 a1_2, .string a1_3] 28 (0, 0)) (by (with_reducible repeat (first | refine blk_drewN ?_ _ | refine blk_drew ?_ | refine blk_alloc ?_ _)); exact BK283.out)) (below_size (by repeat (first | (with_reducible first | exact HB.out | apply below_alloc | apply pw_below_drewN | apply below_drew1 | refine below_set ?_ GE282.out | refine below_set ?_ GE283.out) | exact HB.out))))
      have n1_ := Aside0.mk (Kd.N_lower (Kd.N_mono (ok' := fun k_ => some k_ ≠ (v294 : Value).ownBlock ∧ k_ ≠ gb282 ∧ k_ ≠ gb283) ho1 (fun k_ hk_ => ⟨hk_.2, Or.elim hk_.1 (fun hs_ => fun e_ => Nat.not_le.2 hs_ (by rw [e_]; exact GW282.out)) (fun hn_ => (Kd.freshB (g := gb282) (o := .cells #[.int .i64 a0_0, .string a0_1, .int .i64 a0_2, .int .i64 a0_3, .int .i64 a0_4, .float .f64 a0_5, .string a0_6, .slice A0_7 l0_7.length c0_7, .slice A0_8 l0_8.length c0_8] 32 (0, 0)) (by (with_reducible repeat (first | refine blk_drewN ?_ _ | refine blk_drew ?_ | refine blk_alloc ?_ _)); exact BK282.out) k_ hn_)), Or.elim hk_.1 (fun hs_ => fun e_ => Nat.not_le.2 hs_ (by rw [e_]; exact GW283.out)) (fun hn_ => (Kd.freshB (g := gb283) (o := .cells #[.int .i64 a1_0, .int .i64 a1_1, .float .f64 a1_2, .string a1_3] 28 (0, 0)) (by (with_reducible repeat (first | refine blk_drewN ?_ _ | refine blk_drew ?_ | refine blk_alloc ?_ _)); exact BK283.out) k_ hn_))⟩)) (below_size (by repeat (first | (with_reducible first | exact HB.out | apply below_alloc | apply pw_below_drewN | apply below_drew1 | refine below_set ?_ GE282.out | refine below_set ?_ GE283.out) | exact HB.out))))
      have n2_ := blkS BK282 hb
      have n3_ := blkS BK283 hb
      have n4_ := Aside0.mk (below_step (by repeat (first | (with_reducible first | exact HB.out | apply below_alloc | apply pw_below_drewN | apply below_drew1 | refine below_set ?_ GE282.out | refine below_set ?_ GE283.out) | exact HB.out)) hb)
      clear BK282
      clear BK283
      clear HB
      have HO295 := n0_
      have HO298 := n1_
      have BK282 := n2_
      have BK283 := n3_
      have HB := n4_
      clear n0_ n1_ n2_ n3_ n4_
      (try clear hb)
      (try clear hb2)
      (try clear hk)
      (try clear hi)
      (try clear ho0)
      (try clear ho1)
      obtain ⟨Ao25, co25, eo25⟩ := Kd.R_slice HO295.out
      (first | subst eo25 | (injection eo25 with f1_ f2_ f3_; have f4_ := f1_.symm; have f5_ := f3_.symm; clear f1_ f2_ f3_; subst f4_; subst f5_))
      obtain ⟨Ao26, co26, eo26⟩ := Kd.N_slice HO298.out
      (first | subst eo26 | (injection eo26 with f1_ f2_ f3_; have f4_ := f1_.symm; have f5_ := f3_.symm; clear f1_ f2_ f3_; subst f4_; subst f5_))
      refine hK.out _ _ ⟨(blk_cell BK282.out 0).trans rfl, (blk_cell BK282.out 1).trans rfl, (blk_cell BK282.out 2).trans rfl, (blk_cell BK282.out 3).trans rfl, (blk_cell BK282.out 4).trans rfl, (blk_cell BK282.out 5).trans rfl, (blk_cell BK282.out 6).trans rfl, (blk_cell BK282.out 7).trans rfl, (blk_cell BK282.out 8).trans rfl, (blk_cell BK283.out 0).trans rfl, (blk_cell BK283.out 1).trans rfl, (blk_cell BK283.out 2).trans rfl, (blk_cell BK283.out 3).trans rfl⟩ (fun hHeld => ?_)
      clear hK K
      refine norm_ (a' := ?_) ?_ ?_
      rotate_left
      · show Act.put _ (some 12) _ = _
        simp only [Act.put, List.setIfInBounds_toArray, List.set_cons_zero, List.set_cons_succ, i64_w, i32_w]
        rfl
      refine one_ (i := 3) (N := some 14) #[true, true, true, true, true, false, false, false, false, false] rfl rfl (one_of HT_.out (by kernel_rfl)) (by decide) (fun K hK => ?_)
      refine goes_ Try.func20 (by kernel_rfl) rfl #[.agg #[.int .i64 t286, .string t287, .int .i64 t288, .int .i64 t289, .int .i64 t290, .float .f64 t291, .string t292, .slice Ao25 t293.length co25, .slice Ao26 t296.length co26], .agg #[.int .i64 a1_0, .int .i64 a1_1, .float .f64 a1_2, .string a1_3]] (by rfl) rfl rfl (by (try simp only [List.map_toArray, List.map_cons, List.map_nil]); first | done | rfl | (simp only [List.length_drop, List.length_take]; rfl)) ?_
      with_reducible refine (atom_Test.calls k t286 t287 t288 t289 t290 t291 t292 _ _ t293 _ _ t296 a1_0 a1_1 a1_2 a1_3 t299 _ ?side1 ?side2 ?side3 ?side4 A12.out).mono ?_
      (case side1 => repeat (first | exact (Kd.R_reads' HO295.out).2.2 | (with_reducible refine Kd.C_alloc ?_ _) | (with_reducible refine Kd.C_drewN ?_ _) | (with_reducible refine Kd.C_drew ?_)))
      (case side2 => exact (Kd.R_reads' HO295.out).2.1)
      (case side3 => repeat (first | exact (Kd.N_reads' HO298.out).2.2 | (with_reducible refine Kd.C_alloc ?_ _) | (with_reducible refine Kd.C_drewN ?_ _) | (with_reducible refine Kd.C_drew ?_)))
      (case side4 => exact (Kd.N_reads' HO298.out).2.1)
      rintro e w27 ⟨rfl, hb⟩
      refine ⟨_, rfl, ?_⟩
      have n0_ := Aside0.mk (Kd.R_below (by (with_reducible repeat (first | apply Kd.R_alloc | apply Kd.R_drewN | apply Kd.R_drew)); exact HO295.out) hb)
      have n1_ := Aside0.mk (Kd.N_below (by (with_reducible repeat (first | apply Kd.N_alloc | apply Kd.N_drewN | apply Kd.N_drew)); exact HO298.out) hb)
      have n2_ := blkS BK282 hb
      have n3_ := blkS BK283 hb
      have n4_ := Aside0.mk (below_step (by repeat (first | (with_reducible first | exact HB.out | apply below_alloc | apply pw_below_drewN | apply below_drew1 | refine below_set ?_ GE282.out | refine below_set ?_ GE283.out) | exact HB.out)) hb)
      clear HO295
      clear HO298
      clear BK282
      clear BK283
      clear HB
      have HO295 := n0_
      have HO298 := n1_
      have BK282 := n2_
      have BK283 := n3_
      have HB := n4_
      clear n0_ n1_ n2_ n3_ n4_
      (try clear hb)
      (try clear hb2)
      (try clear hk)
      (try clear hi)
      refine hK.out _ _ ⟨(blk_cell BK282.out 0).trans rfl, (blk_cell BK282.out 1).trans rfl, (blk_cell BK282.out 2).trans rfl, (blk_cell BK282.out 3).trans rfl, (blk_cell BK282.out 4).trans rfl, (blk_cell BK282.out 5).trans rfl, (blk_cell BK282.out 6).trans rfl, (blk_cell BK282.out 7).trans rfl, (blk_cell BK282.out 8).trans rfl, (blk_cell BK283.out 0).trans rfl, (blk_cell BK283.out 1).trans rfl, (blk_cell BK283.out 2).trans rfl, (blk_cell BK283.out 3).trans rfl⟩ (fun hHeld => ?_)
      clear hK K
      refine norm_ (a' := ?_) ?_ ?_
      rotate_left
      · show Act.put _ (some 14) _ = _
        simp only [Act.put, List.setIfInBounds_toArray, List.set_cons_zero, List.set_cons_succ, i64_w, i32_w]
        rfl
      refine pureP #[true, true, true, true, true, true, false, false, false, false] (any_of HT_.out (by kernel_rfl)) (i := 5) (N := some 16) ?_
      refine pureP #[true, true, true, true, true, true, true, false, false, false] (any_of HT_.out (by kernel_rfl)) (i := 6) (N := some 17) ?_
      refine one_ (i := 7) (N := some 18) #[true, true, true, true, true, true, true, true, false, false] rfl rfl (one_of HT_.out (by kernel_rfl)) (by decide) (fun K hK => ?_)
      refine goes_ Try.func15 (by kernel_rfl) rfl #[] (by rfl) rfl rfl (by (try simp only [List.map_toArray, List.map_cons, List.map_nil]); first | done | rfl | (simp only [List.length_drop, List.length_take]; rfl)) ?_
      with_reducible refine (colonnadelaw18_known.calls k  t300 _ A14.out).mono ?_
      rintro e w28 ⟨rfl, hb⟩
      refine ⟨_, rfl, ?_⟩
      have n0_ := Aside0.mk (Kd.R_below (by (with_reducible repeat (first | apply Kd.R_alloc | apply Kd.R_drewN | apply Kd.R_drew)); exact HO295.out) hb)
      have n1_ := Aside0.mk (Kd.N_below (by (with_reducible repeat (first | apply Kd.N_alloc | apply Kd.N_drewN | apply Kd.N_drew)); exact HO298.out) hb)
      have n2_ := blkS BK282 hb
      have n3_ := blkS BK283 hb
      have n4_ := Aside0.mk (below_step (by repeat (first | (with_reducible first | exact HB.out | apply below_alloc | apply pw_below_drewN | apply below_drew1 | refine below_set ?_ GE282.out | refine below_set ?_ GE283.out) | exact HB.out)) hb)
      clear HO295
      clear HO298
      clear BK282
      clear BK283
      clear HB
      have HO295 := n0_
      have HO298 := n1_
      have BK282 := n2_
      have BK283 := n3_
      have HB := n4_
      clear n0_ n1_ n2_ n3_ n4_
      (try clear hb)
      (try clear hb2)
      (try clear hk)
      (try clear hi)
      refine hK.out _ _ ⟨(blk_cell BK282.out 0).trans rfl, (blk_cell BK282.out 1).trans rfl, (blk_cell BK282.out 2).trans rfl, (blk_cell BK282.out 3).trans rfl, (blk_cell BK282.out 4).trans rfl, (blk_cell BK282.out 5).trans rfl, (blk_cell BK282.out 6).trans rfl, (blk_cell BK282.out 7).trans rfl, (blk_cell BK282.out 8).trans rfl, (blk_cell BK283.out 0).trans rfl, (blk_cell BK283.out 1).trans rfl, (blk_cell BK283.out 2).trans rfl, (blk_cell BK283.out 3).trans rfl⟩ (fun hHeld => ?_)
      clear hK K
      refine norm_ (a' := ?_) ?_ ?_
      rotate_left
      · show Act.put _ (some 18) _ = _
        simp only [Act.put, List.setIfInBounds_toArray, List.set_cons_zero, List.set_cons_succ, i64_w, i32_w]
        rfl
      refine pureP #[true, true, true, true, true, true, true, true, true, false] (any_of HT_.out (by kernel_rfl)) (i := 8) (N := some 19) ?_
      refine pureP #[true, true, true, true, true, true, true, true, true, true] (any_of HT_.out (by kernel_rfl)) (i := 9) (N := some 4) ?_
      refine done_ (done_of HT_.out (by kernel_rfl)) ?_
      try go_wp2
      go_ret
      exact ⟨by first | rfl | (simp [errW_none, errW_some] <;> rfl) | (simp [*, errW_none, errW_some] <;> rfl), by repeat (first | (with_reducible first | exact HB.out | apply below_alloc | apply pw_below_drewN | apply below_drew1 | refine below_set ?_ GE282.out | refine below_set ?_ GE283.out) | exact HB.out)⟩
    · rw [if_neg c13] at H
      exact absurd ((Option.some.inj H).trans htrue.out) (by decide)
end Go.Proofs.Ytkedejphebfneaa.Pa
end
section
/- May a value be: the program's answer and the document's are one. Plain: no program in sight. -/
namespace Go.Proofs.Ytkedejphebfneaa.V
open Go.RowKit Go.Proofs.Ytkedejphebfneaa.Pa Go.Proofs.Ytkedejphebfneaa.L Go.Proofs.Ytkedejphebfneaa.F Go.Proofs.YtkedejphebfneaaW.PrintWords Go.Proofs.YtkedejphebfneaaW.PrintLast Go.Proofs.YtkedejphebfneaaW.PrintMore
set_option linter.unusedVariables false
set_option linter.unusedSimpArgs false
theorem evn_of {α : Type} {g : Nat → Option α} {r : α} (h : ∀ k, LeO (g k) (g (k + 1))) (k0 : Nat) (e : g k0 = some r) : Evn g r :=
  ⟨k0, fun k hk => at_rounds h hk e⟩
theorem abs_bits {r : Nat} (h : r < 18446744073709551616) : (Go.bits .andNot .u64 (r : Int) 9223372036854775808).toNat = rg r := by
  have e : (~~~(BitVec.ofInt 64 9223372036854775808)).toNat = 9223372036854775807 := by decide +kernel
  have h1 : Go.bits .andNot .u64 (r : Int) 9223372036854775808 = IntKind.u64.wrap (((BitVec.ofInt 64 (r : Int)) &&& ~~~(BitVec.ofInt 64 9223372036854775808)).toNat : Int) := rfl
  rw [h1, BitVec.toNat_and, e, BitVec.ofInt_natCast, BitVec.toNat_ofNat, Nat.mod_eq_of_lt (show r < 2 ^ 64 from h), show (9223372036854775807 : Nat) = 2 ^ 63 - 1 by decide, Nat.and_two_pow_sub_one_eq_mod]
  have h2 : r % 2 ^ 63 < 9223372036854775808 := Nat.mod_lt _ (by decide)
  rw [u64_in (by omega) (by omega)]
  rfl
/-- A value that may be. -/
def mayS (k i : Int) (r : Nat) (s : ByteArray) : Bool :=
  decide ((k = 0 ∧ i = 0 ∧ s.toList = [] ∧ r = 0) ∨ (k = 1 ∧ s.toList = [] ∧ r = 0) ∨ (k = 2 ∧ i = 0 ∧ s.size ≤ 65535 ∧ r = 0) ∨ (k = 3 ∧ i = 0 ∧ s.toList = [] ∧ rg r < infR ∧ r ≠ 9223372036854775808))
theorem zeroR_eq {r : Nat} (h : r < 18446744073709551616) : zeroR r = decide (r = 0) := by
  unfold zeroR
  rw [feq_zero]
  by_cases hz : rg r = 0
  · obtain ⟨d, h1, h2, h3⟩ := one_div hz
    have hv : fval .quo 4607182418800017408 r = d := by unfold fval; rw [h1]; rfl
    rw [hv, decide_eq_true hz, Bool.true_and]
    have h4 : fgt d 0 = !sg d := by
      unfold fgt
      rw [show FloatKind.f64.format = Ieee.double from rfl]
      unfold Ieee.Format.order
      obtain ⟨m, x, h5, _⟩ := read_fin rg_zero
      rw [read_inf h2, h5]
      cases sg d <;> rfl
    rw [h4, h3]
    have hs := split_word h
    rw [hz] at hs
    cases hq : sg r
    · rw [hq] at hs
      simp at hs
      simp [hs]
    · rw [hq] at hs
      simp at hs
      simp; omega
  · rw [decide_eq_false hz, Bool.false_and]
    refine (decide_eq_false ?_).symm
    intro e
    rw [e] at hz
    exact hz rfl
theorem rg_big {r : Nat} (h : r < 18446744073709551616) : (rg r = 0 ↔ r = 0 ∨ r = 9223372036854775808) := by
  unfold rg
  omega
theorem fok_self (r : Nat) : fok .sub r r = decide (rg r < infR) := by
  rcases self_sub r with ⟨h1, h2, _⟩ | ⟨h1, h2⟩
  · rw [h2, decide_eq_true h1]
  · rw [h2, decide_eq_false (by omega)]
theorem size_nil {s : ByteArray} (h : s.toList = []) : s.size = 0 := by
  have := congrArg List.length h
  rw [ByteArray.toList_eq] at this
  simpa using this
theorem mayR_eq (k i : Int) {r : Nat} (s : ByteArray) (h : r < 18446744073709551616) : mayR k i r s = mayS k i r s := by
  unfold mayR mayS
  rw [zeroR_eq h, fok_self, feq_zero]
  have hb := rg_big h
  rw [Bool.eq_iff_iff]
  by_cases h0 : k = 0
  · subst h0; simp [List.isEmpty_iff, and_assoc]
  by_cases h1 : k = 1
  · subst h1; simp [List.isEmpty_iff, and_assoc]
  by_cases h2 : k = 2
  · subst h2
    simp [List.isEmpty_iff, and_assoc]
    exact fun _ => ⟨fun a => ⟨a.2, a.1⟩, fun a => ⟨a.2, a.1⟩⟩
  by_cases h3 : k = 3
  · subst h3
    rw [if_neg (by decide), if_neg (by decide), if_neg (by decide), if_pos rfl]
    simp [List.isEmpty_iff]
    constructor
    · rintro ⟨⟨⟨a, b⟩, c⟩, d⟩
      refine ⟨a, b, c, ?_⟩
      intro e
      rcases d with d | d
      · exact d (hb.2 (Or.inr e))
      · omega
    · rintro ⟨a, b, c, d⟩
      refine ⟨⟨⟨a, b⟩, c⟩, ?_⟩
      by_cases e : r = 0
      · exact Or.inr e
      · exact Or.inl (fun z => by rcases hb.1 z with z | z <;> omega)
  · rw [if_neg h0, if_neg h1, if_neg h2, if_neg h3]
    simp [h0, h1, h2, h3]
theorem may_f (k i : Int) {r : Nat} (s : ByteArray) (h : r < 18446744073709551616) : Evn (fun n => value_May.f n k i r s) (mayS k i r s) := by
  refine evn_of (fun n => value_May.mono _ _ _ _ _) 3 ?_
  have hab : math_Abs.f r = some (rg r) := by unfold math_Abs.f; rw [abs_bits h]
  have hne : ((r : Int) != 9223372036854775808) = decide (r ≠ 9223372036854775808) := by
    rw [Bool.eq_iff_iff]; simp; omega
  unfold value_May.f
  simp only [value_May.j0, value_May.j1, hab, Option.bind_some, fle_max, hne]
  have hr0 : ((r : Int) = 0) = (r = 0) := by simp
  simp only [hr0]
  unfold mayS
  by_cases h3 : k = 3
  · subst h3
    by_cases hi : i = 0 <;> by_cases hs : s.toList = [] <;> by_cases hf : rg r < infR <;> simp [hi, hs, hf]
  · by_cases h2 : k = 2
    · subst h2
      by_cases hi : i = 0 <;> by_cases hs : s.toList = [] <;> by_cases hr : r = 0 <;> by_cases hsz : s.size ≤ 65535 <;> simp [hi, hs, hr, hsz] <;> (first | omega | (have := size_nil ‹_›; omega) | skip)
    · by_cases h1 : k = 1
      · subst h1
        by_cases hi : i = 0 <;> by_cases hs : s.toList = [] <;> by_cases hr : r = 0 <;> simp [hi, hs, hr]
      · by_cases h0 : k = 0
        · subst h0
          by_cases hi : i = 0 <;> by_cases hs : s.toList = [] <;> by_cases hr : r = 0 <;> simp [hi, hs, hr]
        · by_cases hi : i = 0 <;> by_cases hs : s.toList = [] <;> by_cases hr : r = 0 <;> simp [hi, hs, hr, h3, h2, h1, h0] <;> omega
end Go.Proofs.Ytkedejphebfneaa.V
end
section
/- The order of values: the program's and the document's are one. Plain: no program in sight. -/
namespace Go.Proofs.Ytkedejphebfneaa.V
open Go.RowKit Go.Proofs.Ytkedejphebfneaa.Pa Go.Proofs.Ytkedejphebfneaa.L Go.Proofs.Ytkedejphebfneaa.F Go.Proofs.YtkedejphebfneaaW.PrintWords Go.Proofs.YtkedejphebfneaaW.PrintLast Go.Proofs.YtkedejphebfneaaW.PrintMore
set_option linter.unusedVariables false
set_option linter.unusedSimpArgs false
def sgI (x y : Int) : Int := if x < y then -1 else if y < x then 1 else 0
/-- A whole number against a real. -/
def agS (i : Int) (f : Nat) : Int := if fge f 4890909195324358656 = true then -1 else if flt f 14114281232179134464 = true then 1 else if i ≠ trunc f then sgI i (trunc f) else sgI (val (freal (trunc f))) (val f)
def mxS (i : Int) (f : Nat) : Int := if agS i f = 0 then -1 else agS i f
def clS (k i : Int) (r : Nat) (s : ByteArray) : Int := if mayS k i r s = true then (if k = 0 then 1 else if k = 2 then 3 else 2) else 0
/-- The order of values. -/
def cmpS (k i : Int) (r : Nat) (s : ByteArray) (k' i' : Int) (r' : Nat) (s' : ByteArray) : Int :=
  if clS k i r s ≠ clS k' i' r' s' then sgI (clS k i r s) (clS k' i' r' s') else if clS k i r s < 2 then 0 else if k = 2 then cmpb s s'
  else if k = 1 ∧ k' = 1 then sgI i i' else if k = 3 ∧ k' = 3 then sgI (val r) (val r') else if k = 1 then mxS i r' else -mxS i' r
theorem cmp_int (a b : Int) : cmp_Compare_int.f a b = some (sgI a b) := by
  unfold cmp_Compare_int.f cmp_isNaN_int.f sgI
  simp
  by_cases h : a < b <;> by_cases h2 : b < a <;> simp [h, h2]
theorem cmp_int64 (a b : Int) : cmp_Compare_int64.f a b = some (sgI a b) := by
  unfold cmp_Compare_int64.f cmp_isNaN_int64.f sgI
  simp
  by_cases h : a < b <;> by_cases h2 : b < a <;> simp [h, h2]
theorem cmp_real {a b : Nat} (ha : rg a < infR) (hb : rg b < infR) : cmp_Compare_float64.f a b = some (sgI (val a) (val b)) := by
  unfold cmp_Compare_float64.f cmp_isNaN_float64.f sgI
  rw [feq_fin ha ha, feq_fin hb hb, flt_fin ha hb, fgt_fin ha hb]
  simp
  by_cases h : val a < val b <;> by_cases h2 : val b < val a <;> simp [h, h2]
theorem sgI_range (a b : Int) : sgI a b = -1 ∨ sgI a b = 0 ∨ sgI a b = 1 := by unfold sgI; split; simp; split <;> simp
theorem sgI_zero (a b : Int) : sgI a b = 0 ↔ a = b := by unfold sgI; split; omega; split <;> omega
theorem agS_range (i : Int) (f : Nat) : agS i f = -1 ∨ agS i f = 0 ∨ agS i f = 1 := by
  unfold agS
  split; simp
  split; simp
  split <;> exact sgI_range _ _
theorem feq_zz : feq 0 0 = true := by decide +kernel
theorem against_f (i : Int) {f : Nat} (hf : rg f < infR) : value_against.f i f = some (agS i f) := by
  unfold value_against.f agS
  by_cases h1 : fge f 4890909195324358656 = true
  · rw [if_pos h1, if_pos h1]
  rw [if_neg h1, if_neg h1]
  by_cases h2 : flt f 14114281232179134464 = true
  · rw [if_pos h2, if_pos h2]
  rw [if_neg h2, if_neg h2]
  obtain ⟨e, l1, l2⟩ := int_of hf (by simpa using h1) (by simpa using h2)
  have hk : fintok f = true := by unfold fintok; rw [e]; rfl
  have hv : fint f = trunc f := by unfold fint; rw [e]; rfl
  rw [if_pos hk, hv, cmp_int64, Option.bind_some]
  by_cases h3 : i ≠ trunc f
  · rw [if_pos h3, if_neg (fun q => h3 ((sgI_zero _ _).1 q))]
  · rw [if_neg h3, if_pos ((sgI_zero _ _).2 (by simpa using h3))]
    obtain ⟨r, s1, s2, s3, s4, s5⟩ := sub_signs hf (real_of l1 l2)
    have hk2 : fok .sub f (freal (trunc f)) = true := by unfold fok; rw [s1]; rfl
    have hv2 : fval .sub f (freal (trunc f)) = r := by unfold fval; rw [s1]; rfl
    rw [if_pos hk2, hv2]
    unfold cmp_Compare_float64.f cmp_isNaN_float64.f sgI
    rw [feq_zz, s5, s3, s4]
    simp
    by_cases h : val (freal (trunc f)) < val f <;> by_cases h2 : val f < val (freal (trunc f)) <;> simp [h, h2]
theorem or_f (a b : Int) (hb : b ≠ 0) : Evn (fun k => cmp_Or_int.f k [a, b]) (if a = 0 then b else a) := by
  unfold cmp_Or_int.f
  refine Evn.succ (fun k => by rw [cmp_Or_int.l0]) ?_
  refine Evn.pos (by simp) (Evn.pos (by decide) (Evn.pos (by simp) ?_))
  have e0 : rd [a, b] 0 = a := rfl
  have ew : wrap64 (0 + 1) = 1 := wrap64_in (by omega) (by omega)
  have e1 : rd [a, b] 1 = b := rfl
  rw [e0]
  by_cases h : a = 0
  · rw [if_pos h]
    refine Evn.pos h ?_
    rw [ew]
    refine Evn.succ (fun k => by rw [cmp_Or_int.l0]) ?_
    refine Evn.pos (by simp) ?_
    refine Evn.pos (by decide) ?_
    refine Evn.pos (by simp) ?_
    rw [e1]
    exact Evn.neg hb (Evn.now _)
  · rw [if_neg h]
    exact Evn.neg h (Evn.now _)
theorem class_f (k i : Int) {r : Nat} (s : ByteArray) (h : r < 18446744073709551616) : Evn (fun n => value_class.f n k i r s) (clS k i r s) := by
  unfold value_class.f clS
  refine Evn.bind (may_f k i s h) ?_
  by_cases hm : mayS k i r s = true
  · refine Evn.pos hm ?_
    rw [if_pos hm]
    by_cases h0 : k = 0
    · refine Evn.pos h0 ?_
      rw [if_pos h0]; exact Evn.now _
    · refine Evn.neg h0 ?_
      rw [if_neg h0]
      by_cases h2 : k = 2
      · refine Evn.pos h2 ?_
        rw [if_pos h2]; exact Evn.now _
      · refine Evn.neg h2 ?_
        rw [if_neg h2]; exact Evn.now _
  · refine Evn.neg hm ?_
    rw [if_neg hm]; exact Evn.now _
/-- What is of the class of numbers is a whole number or a finite real. -/
theorem class_two {k i : Int} {r : Nat} {s : ByteArray} (h : clS k i r s = 2) : k = 1 ∨ (k = 3 ∧ rg r < infR) := by
  unfold clS mayS at h
  split at h
  · rename_i hm
    have := of_decide_eq_true hm
    rcases this with q | q | q | q
    · rw [if_pos q.1] at h; omega
    · exact Or.inl q.1
    · rw [if_neg (by omega), if_pos q.1] at h; omega
    · exact Or.inr ⟨q.1, q.2.2.2.1⟩
  · omega
theorem class_three {k i : Int} {r : Nat} {s : ByteArray} (h : clS k i r s = 3) : k = 2 := by
  unfold clS at h
  split at h
  · split at h
    · omega
    · split at h
      · assumption
      · omega
  · omega
theorem class_range (k i : Int) (r : Nat) (s : ByteArray) : clS k i r s = 0 ∨ clS k i r s = 1 ∨ clS k i r s = 2 ∨ clS k i r s = 3 := by
  unfold clS
  split
  · split; simp
    split <;> simp
  · simp
theorem compare_f (k i : Int) {r : Nat} (s : ByteArray) (k' i' : Int) {r' : Nat} (s' : ByteArray) (h : r < 18446744073709551616) (h' : r' < 18446744073709551616) : Evn (fun n => value_Compare.f n k i r s k' i' r' s') (cmpS k i r s k' i' r' s') := by
  unfold value_Compare.f cmpS
  refine Evn.bind (class_f k i s h) (Evn.bind (class_f k' i' s' h') ?_)
  rw [cmp_int]
  simp only [Option.bind_some]
  by_cases hne : clS k i r s ≠ clS k' i' r' s'
  · rw [if_pos hne]
    exact Evn.neg (fun q => hne ((sgI_zero _ _).1 q)) (Evn.now _)
  rw [if_neg hne]
  have he : clS k i r s = clS k' i' r' s' := by simpa using hne
  refine Evn.pos ((sgI_zero _ _).2 he) (Evn.bind (class_f k i s h) ?_)
  by_cases hlt : clS k i r s < 2
  · rw [if_pos hlt]; exact Evn.pos hlt (Evn.now _)
  rw [if_neg hlt]
  refine Evn.neg hlt ?_
  by_cases h2 : k = 2
  · rw [if_pos h2]
    exact Evn.pos h2 (Evn.congr (fun _ => rfl) (Evn.now _))
  rw [if_neg h2]
  refine Evn.neg h2 ?_
  have hc : clS k i r s = 2 := by
    rcases class_range k i r s with q | q | q | q
    · omega
    · omega
    · exact q
    · exact absurd (class_three q) h2
  have c1 := class_two hc
  have c2 := class_two (he ▸ hc)
  rcases c1 with rfl | ⟨rfl, f1⟩
  · rcases c2 with rfl | ⟨rfl, f2⟩
    · rw [if_pos ⟨rfl, rfl⟩]
      refine Evn.pos rfl ?_
      refine Evn.succ (fun n => by rw [value_Compare.j0]) ?_
      refine Evn.pos rfl ?_
      rw [cmp_int64]
      exact Evn.now _
    · rw [if_neg (by omega), if_neg (by omega), if_pos rfl]
      refine Evn.pos rfl ?_
      refine Evn.succ (fun n => by rw [value_Compare.j0]) ?_
      refine Evn.neg (by decide) ?_
      refine Evn.neg (by decide) ?_
      refine Evn.succ (fun n => by rw [value_Compare.j1]) ?_
      refine Evn.neg (by decide) ?_
      refine Evn.pos rfl ?_
      rw [against_f i f2]
      simp only [Option.bind_some]
      exact Evn.bind (or_f _ _ (by decide)) (Evn.now _)
  · rcases c2 with rfl | ⟨rfl, f2⟩
    · rw [if_neg (by omega), if_neg (by omega), if_neg (by decide)]
      refine Evn.neg (by decide) ?_
      refine Evn.succ (fun n => by rw [value_Compare.j0]) ?_
      refine Evn.neg (by decide) ?_
      refine Evn.pos rfl ?_
      refine Evn.succ (fun n => by rw [value_Compare.j1]) ?_
      refine Evn.neg (by decide) ?_
      refine Evn.neg (by decide) ?_
      rw [against_f i' f1]
      simp only [Option.bind_some]
      have e : -mxS i' r = if wrap64 (-agS i' r) = 0 then 1 else wrap64 (-agS i' r) := by
        unfold mxS
        rcases agS_range i' r with q | q | q <;> rw [q] <;> simp [wrap64_in]
      rw [e]
      exact Evn.bind (or_f _ _ (by decide)) (Evn.now _)
    · rw [if_neg (by omega), if_pos ⟨rfl, rfl⟩]
      refine Evn.neg (by decide) ?_
      refine Evn.succ (fun n => by rw [value_Compare.j0]) ?_
      refine Evn.neg (by decide) ?_
      refine Evn.pos rfl ?_
      refine Evn.succ (fun n => by rw [value_Compare.j1]) ?_
      refine Evn.pos rfl ?_
      rw [cmp_real f1 f2]
      exact Evn.now _
end Go.Proofs.Ytkedejphebfneaa.V
end
section
/- Known says true; lists that are walked; a predicate's twin. Plain. -/
namespace Go.Proofs.Ytkedejphebfneaa.V
open Go.RowKit Go.Proofs.Ytkedejphebfneaa.Pa Go.Proofs.Ytkedejphebfneaa.L Go.Proofs.Ytkedejphebfneaa.F Go.Proofs.YtkedejphebfneaaW.PrintWords Go.Proofs.YtkedejphebfneaaW.PrintLast Go.Proofs.YtkedejphebfneaaW.PrintMore
set_option linter.unusedVariables false
set_option linter.unusedSimpArgs false
theorem known_f : Evn (fun k => colonnadelaw18_known.f k) true := Evn.now _
theorem idx_f {q : Nat → S28 → Option Bool} {b : S28 → Bool} : ∀ (l : List S28) (i : Int), 0 ≤ i → (∀ c ∈ l, Evn (fun k => q k c) (b c)) → ∃ r, Evn (fun k => idxT (q k) l i) r ∧ decide (0 ≤ r) = l.any b
  | [], i, _, _ => ⟨-1, Evn.now _, rfl⟩
  | c :: cs, i, h, hq => by
    have h1 := hq c (by simp)
    obtain ⟨r, e1, e2⟩ := idx_f cs (i + 1) (by omega) (fun d hd => hq d (by simp [hd]))
    by_cases hb : b c = true
    · exact ⟨i, Evn.congr (fun k => by rw [idxT]) (Evn.bind h1 (Evn.pos hb (Evn.now _))), by simp [hb, h]⟩
    · exact ⟨r, Evn.congr (fun k => by rw [idxT]) (Evn.bind h1 (Evn.neg hb e1)), by simp [hb, e2]⟩
theorem twin_f (a0 : Int) (a1 : ByteArray) (a2 a3 a4 : Int) (a5 : Nat) (a6 : ByteArray) (l7 : List S28) (l8 : List S32) (h7 : l7.length < 3518437208883) (h8 : l8.length < 1172812402961) :
    colonnadelaw18_twin.f a0 a1 a2 a3 a4 a5 a6 l7 l8 = some (a0, a1, a2, a3, a4, a5, a6, l7, l8) := by
  unfold colonnadelaw18_twin.f colonnadelaw18_values.f
  rw [if_pos (by simpa using h7), Option.bind_some, if_pos (by simpa using h8)]
  rfl
end Go.Proofs.Ytkedejphebfneaa.V
end
section
/- Test, plainly: what the program answers. -/
namespace Go.Proofs.Ytkedejphebfneaa.V
open Go.RowKit Go.Proofs.Ytkedejphebfneaa.Pa Go.Proofs.Ytkedejphebfneaa.L Go.Proofs.Ytkedejphebfneaa.F Go.Proofs.YtkedejphebfneaaW.PrintWords Go.Proofs.YtkedejphebfneaaW.PrintLast Go.Proofs.YtkedejphebfneaaW.PrintMore
set_option linter.unusedVariables false
set_option linter.unusedSimpArgs false
/-- How a value stands to another one. -/
def stS (c op : Int) : Bool := if op = 1 then c == 0 else if op = 2 then c != 0 else if op = 3 then decide (c < 0) else if op = 4 then decide (c ≤ 0) else if op = 5 then decide (c > 0) else if op = 6 then decide (c ≥ 0) else false
theorem stands_f (c op : Int) : atom_stands.f c op = some (stS c op) := by
  unfold atom_stands.f stS
  by_cases h1 : op = 1
  · simp [h1]
  by_cases h2 : op = 2
  · simp [h2]
  by_cases h3 : op = 3
  · simp [h3]
  by_cases h4 : op = 4
  · simp [h4]
  by_cases h5 : op = 5
  · simp [h5]
  by_cases h6 : op = 6
  · simp [h6]
  simp [h1, h2, h3, h4, h5, h6]
/-- How a value stands to one of a list. -/
def cS (k i : Int) (r : Nat) (s : ByteArray) (c : S28) : Int := cmpS k i r s c.f0 c.f1 c.f2 c.f3
def rz (l : List S28) (i : Nat) : S28 := rd_T28 l (i : Int)
/-- Does a text begin with another one? -/
def preS (s p : ByteArray) : Bool := if p.size ≤ s.size then (s.extract 0 p.size).toList == p.toList else false
def sayS (a0 a2 a3 a4 : Int) (a5 : Nat) (a6 : ByteArray) (l7 : List S28) (k i : Int) (r : Nat) (s : ByteArray) : Bool :=
  if a0 = 1 then stS (cmpS k i r s a3 a4 a5 a6) a2 else if a0 = 2 then l7.any (fun c => cS k i r s c == 0)
  else if a0 = 3 then decide (2 ≤ l7.length) && decide (cS k i r s (rz l7 0) ≥ 0) && decide (cS k i r s (rz l7 1) ≤ 0)
  else if a0 = 5 then decide (k = 2) && decide (a3 = 2) && preS s a6 else false
def okL (l7 : List S28) : Prop := ∀ c ∈ l7, c.f2 < 18446744073709551616
theorem rz_mem {l7 : List S28} (i : Nat) (h : i < l7.length) : rz l7 i ∈ l7 := by
  unfold rz rd_T28
  simp [List.getD_eq_getElem?_getD, List.getElem?_eq_getElem h]
theorem hasPrefix_f (s p : ByteArray) : strings_HasPrefix.f s p = some (preS s p) := by
  unfold strings_HasPrefix.f stringslite_HasPrefix.f preS
  by_cases h : p.size ≤ s.size
  · rw [if_pos (by omega), if_pos (by omega), if_pos (by omega), if_pos h]; simp
  · rw [if_neg (by omega), if_neg h]; rfl
theorem rprefix_f (s p : ByteArray) : (if (s.size : Int) ≥ (p.size : Int) then (if 0 ≤ (p.size : Int) then (if (p.size : Int) ≤ (s.size : Int) then (some ((s.extract 0 ((p.size : Int) : Int).toNat).toList == p.toList)) else (none)) else (none)) else (some false)) = some (preS s p) := by
  unfold preS
  by_cases h : p.size ≤ s.size
  · rw [if_pos (by omega), if_pos (by omega), if_pos (by omega), if_pos h]; simp
  · rw [if_neg (by omega), if_neg h]
theorem cmp_c (k i : Int) {r : Nat} (s : ByteArray) (c : S28) (h : r < 18446744073709551616) (h' : c.f2 < 18446744073709551616) : Evn (fun n => value_Compare.f n k i r s c.f0 c.f1 c.f2 c.f3) (cS k i r s c) := compare_f k i s _ _ _ h h'
theorem contains_f (l7 : List S28) (k i : Int) {r : Nat} (s : ByteArray) (h : r < 18446744073709551616) (hl : okL l7) : Evn (fun n => containsSays.f n l7 k i r s) (l7.any (fun c => cS k i r s c == 0)) := by
  unfold containsSays.f
  obtain ⟨x, i1, i2⟩ := idx_f (q := fun n c => (value_Compare.f n k i r s c.f0 c.f1 c.f2 c.f3).bind fun r => some (r == 0)) (b := fun c => cS k i r s c == 0) l7 0 (by omega) (fun c hc => Evn.bind (cmp_c k i s c h (hl c hc)) (Evn.now _))
  rw [← i2]
  exact Evn.bind i1 (Evn.now _)
theorem says_f (a0 : Int) (a1 : ByteArray) (a2 a3 a4 : Int) (a5 : Nat) (a6 : ByteArray) (l7 : List S28) (l8 : List S32) (k i : Int) {r : Nat} (s : ByteArray) (h5 : a5 < 18446744073709551616) (hl : okL l7) (h : r < 18446744073709551616) :
    Evn (fun n => atom_says.f n a0 a1 a2 a3 a4 a5 a6 l7 l8 k i r s) (sayS a0 a2 a3 a4 a5 a6 l7 k i r s) := by
  unfold atom_says.f sayS
  by_cases h1 : a0 = 1
  · rw [if_pos h1]
    refine Evn.pos h1 (Evn.bind (compare_f k i s a3 a4 a6 h h5) ?_)
    rw [stands_f]
    exact Evn.now _
  rw [if_neg h1]
  refine Evn.neg h1 ?_
  by_cases h2 : a0 = 2
  · rw [if_pos h2]
    exact Evn.pos h2 (Evn.bind (contains_f l7 k i s h hl) (Evn.now _))
  rw [if_neg h2]
  refine Evn.neg h2 ?_
  by_cases h3 : a0 = 3
  · rw [if_pos h3]
    refine Evn.pos h3 ?_
    by_cases hn : 2 ≤ l7.length
    · rw [decide_eq_true hn, Bool.true_and]
      refine Evn.pos (by omega) (Evn.pos (by omega) (Evn.bind (cmp_c k i s (rz l7 0) h (hl _ (rz_mem 0 (by omega)))) ?_))
      by_cases q : cS k i r s (rz l7 0) ≥ 0
      · rw [decide_eq_true q, Bool.true_and]
        exact Evn.pos q (Evn.pos (by omega) (Evn.bind (cmp_c k i s (rz l7 1) h (hl _ (rz_mem 1 (by omega)))) (Evn.now _)))
      · rw [decide_eq_false q, Bool.false_and]
        exact Evn.neg q (Evn.now _)
    · rw [decide_eq_false hn, Bool.false_and, Bool.false_and]
      exact Evn.neg (by omega) (Evn.now _)
  rw [if_neg h3]
  refine Evn.neg h3 ?_
  by_cases c5 : a0 = 5
  · simp only [if_pos c5]
    by_cases q : k = 2
    · rw [decide_eq_true q, Bool.true_and]
      refine Evn.pos q ?_
      by_cases q2 : a3 = 2
      · rw [decide_eq_true q2, Bool.true_and]
        refine Evn.pos q2 ?_
        rw [hasPrefix_f]
        exact Evn.now _
      · rw [decide_eq_false q2, Bool.false_and]
        exact Evn.neg q2 (Evn.now _)
    · rw [decide_eq_false q, Bool.false_and, Bool.false_and]
      exact Evn.neg q (Evn.now _)
  · simp only [if_neg c5]
    exact Evn.now _
/-- What an atom says of a value. -/
def testS (a0 a2 a3 a4 : Int) (a5 : Nat) (a6 : ByteArray) (l7 : List S28) (k i : Int) (r : Nat) (s : ByteArray) : Int :=
  if ¬ (1 ≤ a0 ∧ a0 ≤ 5) ∨ mayS k i r s = false then 0 else if k = 0 then (if a0 = 4 then 1 else 2) else if sayS a0 a2 a3 a4 a5 a6 l7 k i r s = true then 1 else 0
theorem test_f (a0 : Int) (a1 : ByteArray) (a2 a3 a4 : Int) (a5 : Nat) (a6 : ByteArray) (l7 : List S28) (l8 : List S32) (k i : Int) {r : Nat} (s : ByteArray) (h5 : a5 < 18446744073709551616) (hl : okL l7) (h : r < 18446744073709551616) :
    Evn (fun n => atom_Test.f n a0 a1 a2 a3 a4 a5 a6 l7 l8 k i r s) (testS a0 a2 a3 a4 a5 a6 l7 k i r s) := by
  unfold atom_Test.f testS
  have e15 : atom_is.f a0 a1 a2 a3 a4 a5 a6 l7 l8 = some (decide (1 ≤ a0 ∧ a0 ≤ 5)) := by
    unfold atom_is.f
    by_cases q : 1 ≤ a0 <;> simp [q]
  rw [e15]
  simp only [Option.bind_some]
  by_cases h1 : 1 ≤ a0 ∧ a0 ≤ 5
  · refine Evn.pos (decide_eq_true h1) (Evn.bind (may_f k i s h) (Evn.succ (fun n => by rw [atom_Test.j0]) ?_))
    by_cases hm : mayS k i r s = true
    · have hc : ¬ (¬ (1 ≤ a0 ∧ a0 ≤ 5) ∨ true = false) := by simp; exact h1
      rw [hm, if_neg hc]
      refine Evn.neg (by decide) ?_
      by_cases h0 : k = 0
      · rw [if_pos h0]
        refine Evn.pos h0 (Evn.succ (fun n => by rw [atom_Test.j1]) ?_)
        by_cases h4 : a0 = 4
        · rw [if_pos h4]; exact Evn.pos (by simpa using h4) (Evn.now _)
        · rw [if_neg h4]; exact Evn.neg (by simpa using h4) (Evn.pos h0 (Evn.now _))
      · rw [if_neg h0]
        refine Evn.neg h0 (Evn.succ (fun n => by rw [atom_Test.j1]) ?_)
        refine Evn.neg (by decide) (Evn.neg h0 (Evn.bind (says_f a0 a1 a2 a3 a4 a5 a6 l7 l8 k i s h5 hl h) ?_))
        by_cases q : sayS a0 a2 a3 a4 a5 a6 l7 k i r s = true
        · simp only [if_pos q]; exact Evn.now _
        · simp only [if_neg q]; exact Evn.now _
    · have hm : mayS k i r s = false := by simpa using hm
      rw [hm, if_pos (Or.inr rfl)]
      exact Evn.pos rfl (Evn.now _)
  · rw [if_pos (Or.inl h1)]
    refine Evn.neg (by rw [decide_eq_false h1]; decide) (Evn.succ (fun n => by rw [atom_Test.j0]) ?_)
    rw [decide_eq_false h1]
    exact Evn.pos rfl (Evn.now _)
end Go.Proofs.Ytkedejphebfneaa.V
end
section
/- The document's order of values, plainly. -/
namespace Go.Proofs.Ytkedejphebfneaa.V
open Go.RowKit Go.Proofs.Ytkedejphebfneaa.Pa Go.Proofs.Ytkedejphebfneaa.L Go.Proofs.Ytkedejphebfneaa.F Go.Proofs.YtkedejphebfneaaW.PrintWords Go.Proofs.YtkedejphebfneaaW.PrintLast Go.Proofs.YtkedejphebfneaaW.PrintMore
set_option linter.unusedVariables false
set_option linter.unusedSimpArgs false
theorem sign_f (a b : Int) : colonnaderef18_sign.f (decide (a < b)) (decide (a > b)) = some (sgI a b) := by
  unfold colonnaderef18_sign.f sgI
  by_cases h : a < b <;> by_cases h2 : b < a <;> simp [h, h2]
theorem sign_ne {a b : Int} (hne : a ≠ b) : colonnaderef18_sign.f (decide (a < b)) true = some (sgI a b) := by
  unfold colonnaderef18_sign.f sgI
  by_cases h : a < b <;> by_cases h2 : b < a <;> simp [h, h2] <;> omega
theorem mixed_f (i : Int) {f : Nat} (hf : rg f < infR) : colonnaderef18_mixed.f i f = some (mxS i f) := by
  unfold colonnaderef18_mixed.f mxS agS
  by_cases h1 : fge f 4890909195324358656 = true
  · rw [if_pos h1]; simp [h1]
  rw [if_neg h1]
  by_cases h2 : flt f 14114281232179134464 = true
  · rw [if_pos h2]; simp [h1, h2]
  rw [if_neg h2]
  obtain ⟨e, l1, l2⟩ := int_of hf (by simpa using h1) (by simpa using h2)
  have hk : fintok f = true := by unfold fintok; rw [e]; rfl
  have hv : fint f = trunc f := by unfold fint; rw [e]; rfl
  rw [if_pos hk, hv]
  simp only [h1, h2, if_false, Bool.false_eq_true]
  by_cases h3 : i = trunc f
  · have hr := real_of l1 l2
    rw [if_pos h3, fgt_fin hf hr, flt_fin hf hr, if_neg (fun q : ¬ _ = _ => q h3)]
    unfold sgI
    by_cases h : val (freal (trunc f)) < val f <;> by_cases h2 : val f < val (freal (trunc f)) <;> simp [h, h2]
  · rw [if_neg h3, sign_ne h3, if_pos h3, if_neg (fun q => h3 ((sgI_zero _ _).1 q))]
    rfl
theorem rclass_f (k i : Int) {r : Nat} (s : ByteArray) (h : r < 18446744073709551616) : colonnaderef18_class.f k i r s = some (clS k i r s) := by
  unfold colonnaderef18_class.f clS colonnaderef18_May.f
  rw [mayR_eq _ _ _ h, Option.bind_some]
  by_cases hm : mayS k i r s = true
  · rw [if_pos hm, if_pos hm]
    by_cases h0 : k = 0
    · rw [if_pos h0, if_pos h0]
    · by_cases h2 : k = 2 <;> simp [h0, h2]
  · rw [if_neg hm, if_neg hm]
theorem sign_bytes : ∀ x y : List UInt8, colonnaderef18_sign.f (Op.bytesLess x y) (Op.bytesLess y x) = some (Lib.compareBytes x y)
  | [], [] => rfl
  | [], _ :: _ => rfl
  | _ :: _, [] => rfl
  | a :: x, b :: y => by
    have ih := sign_bytes x y
    rw [Op.bytesLess, Op.bytesLess, Lib.compareBytes]
    rcases Nat.lt_trichotomy a.toNat b.toNat with h | h | h
    · have h1 : a < b := UInt8.lt_iff_toNat_lt.2 h
      simp [h1, colonnaderef18_sign.f]
    · have h5 : a = b := UInt8.toNat_inj.1 h
      subst h5
      have h2 : ¬ a < a := fun k => by have := UInt8.lt_iff_toNat_lt.1 k; omega
      simp [h2]
      exact ih
    · have h1 : ¬ a < b := fun k => by have := UInt8.lt_iff_toNat_lt.1 k; omega
      have h2 : b < a := UInt8.lt_iff_toNat_lt.2 h
      have h3 : (a == b) = false := beq_eq_false_iff_ne.2 (fun k => by rw [k] at h; omega)
      simp [h1, h2, h3, colonnaderef18_sign.f]
theorem cmpb_sign (a b : ByteArray) : colonnaderef18_sign.f (Op.bytesLess a.toList b.toList) (Op.bytesLess b.toList a.toList) = some (cmpb a b) := by
  have e : ∀ c : ByteArray, c.toList = c.data.toList := fun c => by rw [ByteArray.toList_eq]
  rw [e a, e b, sign_bytes]
  unfold cmpb
  rw [Lib.cmp_eq]
theorem rcompare_f (k i : Int) {r : Nat} (s : ByteArray) (k' i' : Int) {r' : Nat} (s' : ByteArray) (h : r < 18446744073709551616) (h' : r' < 18446744073709551616) : Evn (fun n => colonnaderef18_Compare.f n k i r s k' i' r' s') (cmpS k i r s k' i' r' s') := by
  unfold colonnaderef18_Compare.f cmpS
  rw [rclass_f k i s h, rclass_f k' i' s' h']
  simp only [Option.bind_some]
  by_cases hne : clS k i r s ≠ clS k' i' r' s'
  · rw [if_pos hne, sign_ne hne]
    exact Evn.neg hne (Evn.now _)
  rw [if_neg hne]
  have he : clS k i r s = clS k' i' r' s' := by simpa using hne
  refine Evn.pos he ?_
  rcases class_range k i r s with hc | hc | hc | hc
  · rw [hc, if_pos (by decide)]; exact Evn.neg (by decide) (Evn.neg (by decide) (Evn.now _))
  · rw [hc, if_pos (by decide)]; exact Evn.neg (by decide) (Evn.neg (by decide) (Evn.now _))
  · have c1 := class_two hc
    have c2 := class_two (he ▸ hc)
    rw [hc, if_neg (by decide)]
    refine Evn.neg (by decide) ?_
    refine Evn.pos rfl ?_
    rcases c1 with rfl | ⟨rfl, f1⟩
    · rw [if_neg (by decide)]
      rcases c2 with rfl | ⟨rfl, f2⟩
      · rw [if_pos ⟨rfl, rfl⟩]
        refine Evn.pos rfl ?_
        refine Evn.succ (fun n => by rw [colonnaderef18_Compare.j0]) ?_
        refine Evn.pos rfl ?_
        rw [sign_f]
        exact Evn.now _
      · rw [if_neg (by omega), if_neg (by omega), if_pos rfl]
        refine Evn.pos rfl ?_
        refine Evn.succ (fun n => by rw [colonnaderef18_Compare.j0]) ?_
        refine Evn.neg (by decide) ?_
        refine Evn.neg (by decide) ?_
        refine Evn.succ (fun n => by rw [colonnaderef18_Compare.j1]) ?_
        refine Evn.neg (by decide) ?_
        refine Evn.pos rfl ?_
        rw [mixed_f i f2]
        exact Evn.now _
    · rw [if_neg (by decide)]
      rcases c2 with rfl | ⟨rfl, f2⟩
      · rw [if_neg (by omega), if_neg (by omega), if_neg (by decide)]
        refine Evn.neg (by decide) ?_
        refine Evn.succ (fun n => by rw [colonnaderef18_Compare.j0]) ?_
        refine Evn.neg (by decide) ?_
        refine Evn.pos rfl ?_
        refine Evn.succ (fun n => by rw [colonnaderef18_Compare.j1]) ?_
        refine Evn.neg (by decide) ?_
        refine Evn.neg (by decide) ?_
        rw [mixed_f i' f1]
        have e : wrap64 (-mxS i' r) = -mxS i' r := by
          unfold mxS
          rcases agS_range i' r with q | q | q <;> rw [q] <;> simp [wrap64_in]
        simp only [Option.bind_some, e]
        exact Evn.now _
      · rw [if_neg (by omega), if_pos ⟨rfl, rfl⟩]
        refine Evn.neg (by decide) ?_
        refine Evn.succ (fun n => by rw [colonnaderef18_Compare.j0]) ?_
        refine Evn.neg (by decide) ?_
        refine Evn.pos rfl ?_
        refine Evn.succ (fun n => by rw [colonnaderef18_Compare.j1]) ?_
        refine Evn.pos rfl ?_
        rw [flt_fin f1 f2, fgt_fin f1 f2, sign_f]
        exact Evn.now _
  · rw [hc, if_neg (by decide), if_pos (class_three hc)]
    refine Evn.pos rfl ?_
    rw [cmpb_sign]
    exact Evn.now _
end Go.Proofs.Ytkedejphebfneaa.V
end
section
/- Test, plainly: what the document answers. -/
namespace Go.Proofs.Ytkedejphebfneaa.V
open Go.RowKit Go.Proofs.Ytkedejphebfneaa.Pa Go.Proofs.Ytkedejphebfneaa.L Go.Proofs.Ytkedejphebfneaa.F Go.Proofs.YtkedejphebfneaaW.PrintWords Go.Proofs.YtkedejphebfneaaW.PrintLast Go.Proofs.YtkedejphebfneaaW.PrintMore
set_option linter.unusedVariables false
set_option linter.unusedSimpArgs false
theorem rstands_f (k i : Int) {r : Nat} (s : ByteArray) (op k' i' : Int) {r' : Nat} (s' : ByteArray) (h : r < 18446744073709551616) (h' : r' < 18446744073709551616) : Evn (fun n => colonnaderef18_stands.f n k i r s op k' i' r' s') (stS (cmpS k i r s k' i' r' s') op) := by
  unfold colonnaderef18_stands.f
  exact Evn.bind (rcompare_f k i s k' i' s' h h') (Evn.now _)
theorem rcmp_c (k i : Int) {r : Nat} (s : ByteArray) (c : S28) (h : r < 18446744073709551616) (h' : c.f2 < 18446744073709551616) : Evn (fun n => colonnaderef18_Compare.f n k i r s c.f0 c.f1 c.f2 c.f3) (cS k i r s c) := rcompare_f k i s _ _ _ h h'
theorem rsays_l (a0 : Int) (a1 : ByteArray) (a2 a3 a4 : Int) (a5 : Nat) (a6 : ByteArray) (l7 : List S28) (l8 : List S32) (k i : Int) {r : Nat} (s : ByteArray) (hl : okL l7) (hb : l7.length < 9223372036854775808) (h : r < 18446744073709551616) :
    ∀ (d j : Nat), j + d = l7.length → Evn (fun n => colonnaderef18_says.l0 n (j : Int) a0 a1 a2 a3 a4 a5 a6 l7 l8 k i r s) ((l7.drop j).any (fun c => cS k i r s c == 0))
  | 0, j, e => by
    refine Evn.succ (fun n => by rw [colonnaderef18_says.l0]) ?_
    rw [List.drop_eq_nil_of_le (by omega)]
    exact Evn.neg (by omega) (Evn.now _)
  | d + 1, j, e => by
    refine Evn.succ (fun n => by rw [colonnaderef18_says.l0]) ?_
    have hlt : j < l7.length := by omega
    have hdr : l7.drop j = rz l7 j :: l7.drop (j + 1) := by rw [List.drop_eq_getElem_cons hlt]; simp [rz, rd_T28, List.getD_eq_getElem?_getD, List.getElem?_eq_getElem hlt]
    rw [hdr, List.any_cons]
    refine Evn.pos (by omega) (Evn.pos (by omega) (Evn.bind (rcmp_c k i s (rz l7 j) h (hl _ (rz_mem j hlt))) ?_))
    by_cases q : cS k i r s (rz l7 j) = 0
    · rw [q]
      exact Evn.pos rfl (Evn.now _)
    · refine Evn.neg q ?_
      have hw : wrap64 ((j : Int) + 1) = ((j + 1 : Nat) : Int) := by rw [wrap64_in (by omega) (by omega)]; omega
      rw [hw, beq_eq_false_iff_ne.2 q, Bool.false_or]
      exact rsays_l a0 a1 a2 a3 a4 a5 a6 l7 l8 k i s hl hb h d (j + 1) (by omega)
theorem rsays_f (a0 : Int) (a1 : ByteArray) (a2 a3 a4 : Int) (a5 : Nat) (a6 : ByteArray) (l7 : List S28) (l8 : List S32) (k i : Int) {r : Nat} (s : ByteArray) (h5 : a5 < 18446744073709551616) (hl : okL l7) (hb : l7.length < 9223372036854775808) (h : r < 18446744073709551616) :
    Evn (fun n => colonnaderef18_says.f n a0 a1 a2 a3 a4 a5 a6 l7 l8 k i r s) (sayS a0 a2 a3 a4 a5 a6 l7 k i r s) := by
  unfold colonnaderef18_says.f sayS
  by_cases h1 : a0 = 1
  · rw [if_pos h1]
    exact Evn.pos h1 (Evn.bind (rstands_f k i s a2 a3 a4 a6 h h5) (Evn.now _))
  rw [if_neg h1]
  refine Evn.neg h1 ?_
  by_cases h2 : a0 = 2
  · rw [if_pos h2]
    exact Evn.pos h2 (rsays_l a0 a1 a2 a3 a4 a5 a6 l7 l8 k i s hl hb h l7.length 0 (by omega))
  rw [if_neg h2]
  refine Evn.neg h2 ?_
  by_cases h3 : a0 = 3
  · rw [if_pos h3]
    refine Evn.pos h3 ?_
    by_cases hn : 2 ≤ l7.length
    · rw [decide_eq_true hn, Bool.true_and]
      refine Evn.pos (by omega) (Evn.pos (by omega) (Evn.bind (rcmp_c k i s (rz l7 0) h (hl _ (rz_mem 0 (by omega)))) ?_))
      by_cases q : cS k i r s (rz l7 0) ≥ 0
      · rw [decide_eq_true q, Bool.true_and]
        exact Evn.pos q (Evn.pos (by omega) (Evn.bind (rcmp_c k i s (rz l7 1) h (hl _ (rz_mem 1 (by omega)))) (Evn.now _)))
      · rw [decide_eq_false q, Bool.false_and]
        exact Evn.neg q (Evn.now _)
    · rw [decide_eq_false hn, Bool.false_and, Bool.false_and]
      exact Evn.neg (by omega) (Evn.now _)
  rw [if_neg h3]
  refine Evn.neg h3 ?_
  by_cases c5 : a0 = 5
  · simp only [if_pos c5]
    by_cases q : k = 2
    · rw [decide_eq_true q, Bool.true_and]
      refine Evn.pos q ?_
      by_cases q2 : a3 = 2
      · rw [decide_eq_true q2, Bool.true_and]
        refine Evn.pos q2 (Evn.congr (fun _ => rprefix_f s a6) (Evn.now _))
      · rw [decide_eq_false q2, Bool.false_and]
        exact Evn.neg q2 (Evn.now _)
    · rw [decide_eq_false q, Bool.false_and, Bool.false_and]
      exact Evn.neg q (Evn.now _)
  · simp only [if_neg c5]
    exact Evn.now _
theorem rtest_f (a0 : Int) (a1 : ByteArray) (a2 a3 a4 : Int) (a5 : Nat) (a6 : ByteArray) (l7 : List S28) (l8 : List S32) (k i : Int) {r : Nat} (s : ByteArray) (h5 : a5 < 18446744073709551616) (hl : okL l7) (hb : l7.length < 9223372036854775808) (h : r < 18446744073709551616) :
    Evn (fun n => colonnaderef18_Test.f n a0 a1 a2 a3 a4 a5 a6 l7 l8 k i r s) (testS a0 a2 a3 a4 a5 a6 l7 k i r s) := by
  unfold colonnaderef18_Test.f testS
  by_cases h1 : 1 ≤ a0
  · refine Evn.neg (by omega) ?_
    by_cases h2 : a0 ≤ 5
    · refine Evn.neg (by omega) ?_
      unfold colonnaderef18_May.f
      rw [mayR_eq _ _ _ h]
      simp only [Option.bind_some]
      refine Evn.succ (fun n => by rw [colonnaderef18_Test.j0]) ?_
      by_cases hm : mayS k i r s = true
      · have hc : ¬ (¬ (1 ≤ a0 ∧ a0 ≤ 5) ∨ true = false) := by simp; exact ⟨h1, h2⟩
        rw [hm, if_neg hc]
        refine Evn.neg (by decide) ?_
        by_cases h0 : k = 0
        · rw [if_pos h0]
          refine Evn.pos h0 ?_
          by_cases h4 : a0 = 4
          · simp only [if_pos h4]; exact Evn.now _
          · simp only [if_neg h4]; exact Evn.now _
        · rw [if_neg h0]
          refine Evn.neg h0 (Evn.bind (rsays_f a0 a1 a2 a3 a4 a5 a6 l7 l8 k i s h5 hl hb h) ?_)
          by_cases q : sayS a0 a2 a3 a4 a5 a6 l7 k i r s = true
          · simp only [if_pos q]; exact Evn.now _
          · simp only [if_neg q]; exact Evn.now _
      · have hm : mayS k i r s = false := by simpa using hm
        rw [hm, if_pos (Or.inr rfl)]
        exact Evn.pos rfl (Evn.now _)
    · rw [if_pos (Or.inl (by omega))]
      exact Evn.pos (by omega) (Evn.succ (fun n => by rw [colonnaderef18_Test.j0]) (Evn.pos rfl (Evn.now _)))
  · rw [if_pos (Or.inl (by omega))]
    exact Evn.pos (by omega) (Evn.succ (fun n => by rw [colonnaderef18_Test.j0]) (Evn.pos rfl (Evn.now _)))
end Go.Proofs.Ytkedejphebfneaa.V
end
section
/- AtomTests: of any predicate and any value Test answers what the document's does. No conditions. -/
namespace Go.Proofs.Ytkedejphebfneaa.Pure
open Go.RowKit Go.Proofs.Ytkedejphebfneaa.Pa Go.Proofs.Ytkedejphebfneaa.V Go.Proofs.Ytkedejphebfneaa.L Go.Proofs.YtkedejphebfneaaW.PrintWords Go.Proofs.YtkedejphebfneaaW.PrintLast Go.Proofs.YtkedejphebfneaaW.PrintMore
theorem AtomTests (l0 : S32) (l1 : S28) (h0 : okS32 l0) (h1 : okS28 l1) : ∃ k, colonnadelaw18_AtomTests.f k l0.f0 l0.f1 l0.f2 l0.f3.f0 l0.f3.f1 l0.f3.f2 l0.f3.f3 l0.f4 l0.f5 l1.f0 l1.f1 l1.f2 l1.f3 = some true := by
  apply Evn.ex
  have hw : l0.f3.f2 < 18446744073709551616 ∧ okL l0.f4 ∧ l0.f4.length < 3518437208883 ∧ l0.f5.length < 1172812402961 := by
    cases h0 with
    | mk _ a b c d e f g => exact ⟨F.wf_word d.2.2.1, fun x hx => F.wf_word (e.2 x hx).2.2.1, by omega, by omega⟩
  have hv := F.wf_word h1.2.2.1
  unfold colonnadelaw18_AtomTests.f
  obtain ⟨b, hb⟩ := pred_ends l0.f0 l0.f1 l0.f2 l0.f3.f0 l0.f3.f1 l0.f3.f2 l0.f3.f3 l0.f4 l0.f5
  refine Evn.bind hb ?_
  by_cases e : b = true
  · exact Evn.pos e (Evn.now _)
  refine Evn.neg e (Evn.bind (rtest_f _ _ _ _ _ _ _ _ _ _ _ _ hw.1 hw.2.1 (by omega) hv) ?_)
  simp only [twin_f _ _ _ _ _ _ _ _ _ hw.2.2.1 hw.2.2.2, Option.bind_some]
  exact Evn.bind (test_f _ _ _ _ _ _ _ _ _ _ _ _ hw.1 hw.2.1 hv) (Evn.pos rfl (Evn.bind known_f (Evn.now _)))
end Go.Proofs.Ytkedejphebfneaa.Pure
end
section
/- AtomTests: the row, out of the law's walk and its plain law. -/
namespace Go.Proofs.Ytkedejphebfneaa.atomTests
open Go.ChangeShapes Go.WideShapes Go.ChangeAt Go.RowKit Go.Proofs.Ytkedejphebfneaa.O Go.Proofs.Ytkedejphebfneaa.Pa Go.Proofs.YtkedejphebfneaaW.PrintWords
open Go.ChangeMaps (open_string shut_string)
set_option linter.unusedVariables false
set_option linter.unusedSimpArgs false
theorem own : ownKnob Try.prog.godebug = none := by kernel_rfl
theorem laidOut : laidOutB Try.prog = true := by kernel_rfl
set_option maxRecDepth 100000 in
theorem lifted (os : Os) (started : os.Started) (H : Type) (enc : TypeId × Value → H) :
    ReturnsInHanded {} Try.checked os 5 .any (Rows.atomTestsSpec.pre6 enc Try.prog Try.f5 Rows.atomTestsRow.domain false) (Rows.atomTestsSpec.post enc Try.prog Try.f5 false true false false) := by
  refine returnsInHanded_of_change_sized (C := Try.checked) own started (by kernel_rfl) Try.func5
    (ChangeSpec.witness6 (enc := enc) (C := Try.checked) false ⟨#[], #[.agg #[.int .i64 0, .string ByteArray.empty, .int .i64 0, .int .i64 0, .int .i64 0, .float .f64 0, .string ByteArray.empty, .slice none 0 0, .slice none 0 0], .agg #[.int .i64 0, .int .i64 0, .float .f64 0, .string ByteArray.empty]], []⟩ 8 (by kernel_rfl) (by kernel_rfl) (by kernel_rfl) (by kernel_rfl)) ?_
  intro W base args ds gs before hval0 hW hcnd hsz0 _
  have hsz : (DataW.weightsEach Try.prog (Try.f5.params.toList ++ Rows.atomTestsSpec.plain.varTypes Try.prog) (ds ++ gs)).all (· ≤ reachBytes) = true := hsz0
  have hval : ∀ (j : Nat) t v, Try.f5.params[j]? = some t → args[j]? = some v → Value.okWide Try.prog W .any base t v := hval0
  have hW' := hW
  obtain ⟨p, q, hA0, hV, rfl, hfz, hnd⟩ := hW
  have hA : DataW.TrodAll enc Try.prog W 0 (fun _ => true) true Try.f5.params.toList args.toList ds p := hA0
  rw [Try.params5] at hA hval hsz
  obtain ⟨v0, vs0, d0, ds0, p0, q0, hargs, rfl, rfl, h0, r0⟩ := trodAll_cons hA
  obtain ⟨v1, vs1, d1, ds1, p1, q1, rfl, rfl, rfl, h1, r1⟩ := trodAll_cons r0
  obtain ⟨rfl, rfl, rfl⟩ := trodAll_nil r1
  obtain rfl : args = #[v0, v1] := by cases args; simp_all
  obtain ⟨rfl, rfl⟩ := trodVars_none hV
  obtain ⟨ca0, rfl, hs0⟩ := okWide_struct Try.underlying32 (hval 0 32 v0 rfl rfl)
  have k0 := h0
  have lt0 : ∀ x ∈ p0, x.block < W.heap.size := by obtain ⟨m, hm⟩ := k0; exact DataW.trod_lt m _ _ _ hm
  obtain ⟨fu0, hf0⟩ := h0
  have hz0 : ∀ n ∈ d0.weights Try.prog 32, n ≤ reachBytes := fun n hn => by simpa using List.all_eq_true.1 hsz n (DataW.weights_mem_each (j := 0) (t := 32) rfl rfl n hn)
  obtain ⟨l0, hK0, ok0, bk0⟩ := (show Opens enc Try.prog W 32 k32 (fun x_ => okS32 x_) bS32 fu0 from (open_S32 fu0)) _ _ _ hf0 hz0
  obtain ⟨A0_7, c0_7, A0_8, c0_8, e0, hl0_7, hC0_7, hl0_8, hC0_8⟩ := k32_open hK0
  obtain rfl : ca0 = #[.int .i64 l0.f0, .string l0.f1, .int .i64 l0.f2, .int .i64 l0.f3.f0, .int .i64 l0.f3.f1, .float .f64 l0.f3.f2, .string l0.f3.f3, .slice A0_7 l0.f4.length c0_7, .slice A0_8 l0.f5.length c0_8] := by cases ca0; simpa [Value.cells] using e0
  obtain ⟨ca1, rfl, hs1⟩ := okWide_struct Try.underlying28 (hval 1 28 v1 rfl rfl)
  have k1 := h1
  have lt1 : ∀ x ∈ p1, x.block < W.heap.size := by obtain ⟨m, hm⟩ := k1; exact DataW.trod_lt m _ _ _ hm
  obtain ⟨fu1, hf1⟩ := h1
  have hz1 : ∀ n ∈ d1.weights Try.prog 28, n ≤ reachBytes := fun n hn => by simpa using List.all_eq_true.1 hsz n (DataW.weights_mem_each (j := 1) (t := 28) rfl rfl n hn)
  obtain ⟨l1, hK1, ok1, bk1⟩ := (show Opens enc Try.prog W 28 k28 (fun x_ => okS28 x_) bS28 fu1 from (open_S28 fu1)) _ _ _ hf1 hz1
  obtain e1 := k28_open hK1
  obtain rfl : ca1 = #[.int .i64 l1.f0, .int .i64 l1.f1, .float .f64 l1.f2, .string l1.f3] := by cases ca1; simpa [Value.cells] using e1
  obtain ⟨k_, hk_⟩ := Pure.AtomTests l0 l1 ok0 ok1
  refine (colonnadelaw18_AtomTests.calls k_ (l0.f0) (l0.f1) (l0.f2) (l0.f3.f0) (l0.f3.f1) (l0.f3.f2) (l0.f3.f3) _ _ l0.f4 _ _ l0.f5 (l1.f0) (l1.f1) (l1.f2) (l1.f3) true W hC0_7 hl0_7 hC0_8 hl0_8 hk_ ⟨rfl⟩).mono fun e W' ⟨he, bel⟩ => ?_
  subst he
  exact ⟨_, rfl, _, _, _, [], _, [], hW', trodAll_mk1 (shut_bool Try.underlying4 _), (trodAll_cons_mk (Below.trod laidOut (by kernel_rfl) (of_decide_eq_true (by kernel_rfl)) k0 bel lt0) (trodAll_cons_mk (Below.trod laidOut (by kernel_rfl) (of_decide_eq_true (by kernel_rfl)) k1 bel lt1) trodAll_mk0)), rfl, bel.frame _, fun h => by cases h⟩
theorem over : Rows.atomTestsRow.holds Try.pinned (OpenSpec.ofChange Rows.atomTestsSpec) :=
  OpenClaim.holds_of_wide 5 Try.f5 rfl rfl rfl rfl rfl rfl rfl ⟨rfl, rfl, rfl, rfl, rfl⟩ rfl rfl rfl rfl rfl (by kernel_rfl) Try.func5 (by kernel_rfl)
    (of_decide_eq_true (by kernel_rfl)) (by unfold Func.isWrapper; first | (rw [if_pos (by decide +kernel)]; kernel_rfl) | (rw [if_neg (by decide +kernel)]; exact ⟨rfl, rfl⟩))
    (fun os started H enc _ => lifted os started H enc)
end Go.Proofs.Ytkedejphebfneaa.atomTests
namespace Go.Proofs.Ytkedejphebfneaa
/-- The row, under a short name, for the claim. -/
theorem atomTests_holds : Rows.AtomTestsSaid := atomTests.over
#print axioms atomTests_holds
end Go.Proofs.Ytkedejphebfneaa
end
