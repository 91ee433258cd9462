/- The texts of AtomBegins, merged: part 6. -/
import Derived.Test.YtkedejphebfneaaQAtomBegins2
import Derived.Test.YtkedejphebfneaaQAtomBegins4
import Derived.Deep.RegionWith
section
-- Written by xprint.py, a program of this session, over the kit's print. Not trusted: Lean checks it.
namespace Go.Proofs.Ytkedejphebfneaa.Pa
open Go.RowKit Go.Proofs.YtkedejphebfneaaW.PrintWords Go.Proofs.YtkedejphebfneaaW.PrintLast Go.Proofs.YtkedejphebfneaaW.PrintMore
attribute [local go_sem] max2_int min2_int max_two min_two max_three min_three max_four min_four   -- for this text's walks alone
attribute [local go_sem] run_store_float cmp_feq cmp_fne cmp_flt cmp_fle cmp_fgt cmp_fge un_fneg equalIn_feq run_fop run_fint run_freal cmp_sgt ext_bits ext_frombits ext_cmpb
set_option linter.unusedVariables false
set_option linter.unusedSimpArgs false

/-! ### colonnadelaw18_begins: function 27 -/
def colonnadelaw18_begins.f (a0 : ByteArray) (a1 : ByteArray) : Option (Bool) := if (a0.size : Int) ≥ (a1.size : Int) then (if 0 ≤ (a1.size : Int) then (if (a1.size : Int) ≤ (a0.size : Int) then (some ((a0.extract 0 ((a1.size : Int) : Int).toNat).toList == a1.toList)) else (none)) else (none)) else (some false)
set_option maxHeartbeats 8000000 in
set_option maxRecDepth 100000 in
theorem colonnadelaw18_begins.calls (a0 : ByteArray) (a1 : ByteArray) (r : Bool) (w : World) (h : colonnadelaw18_begins.f a0 a1 = some r) :
    Calls Try.prog 27 #[.string a0, .string a1] w fun e w' => e = .returned (.bool r) ∧ Drawn0 w w' := by
  have H : (if (a0.size : Int) ≥ (a1.size : Int) then (if 0 ≤ (a1.size : Int) then (if (a1.size : Int) ≤ (a0.size : Int) then (some ((a0.extract 0 ((a1.size : Int) : Int).toNat).toList == a1.toList)) else (none)) else (none)) else (some false)) = some r := h
  clear h
  by_cases c3 : (a0.size : Int) ≥ (a1.size : Int)
  · rw [if_pos c3] at H
    have c3b0 : decide ((a1.size : Int) ≤ (a0.size : Int)) = true := decide_eq_true c3
    have c3b1 : decide (a1.size ≤ a0.size) = true := decide_eq_true (Int.ofNat_le.mp c3)
    clear c3
    by_cases c4 : 0 ≤ (a1.size : Int)
    · rw [if_pos c4] at H
      have c4b0 := eq_true c4
      have c4b1 : decide (0 ≤ (a1.size : Int)) = true := decide_eq_true c4
      clear c4
      by_cases c5 : (a1.size : Int) ≤ (a0.size : Int)
      · rw [if_pos c5] at H
        have c5b0 := eq_true c5
        have c5b1 : decide ((a1.size : Int) ≤ (a0.size : Int)) = true := decide_eq_true c5
        clear c5
        obtain rfl := Option.some.inj H
        go_enter Try.func27, Try.ntmps27
        go_wp2
        go_ret
        exact ⟨by first | rfl | (simp; done) | (simp [*]; done), by repeat (first | exact Drawn0.refl _ | apply Drawn0.step)⟩
      · rw [if_neg c5] at H
        exact absurd H (by simp)
    · rw [if_neg c4] at H
      exact absurd H (by simp)
  · rw [if_neg c3] at H
    have c3b0 : decide ((a1.size : Int) ≤ (a0.size : Int)) = false := decide_eq_false c3
    have c3b1 : decide (a1.size ≤ a0.size) = false := decide_eq_false (fun h => c3 (Int.ofNat_le.mpr h))
    clear c3
    obtain rfl := Option.some.inj H
    go_enter Try.func27, Try.ntmps27
    go_wp2
    go_ret
    exact ⟨by first | rfl | (simp; done) | (simp [*]; done), by repeat (first | exact Drawn0.refl _ | apply Drawn0.step)⟩

/-! ### colonnadelaw18_compared: function 28 -/
def colonnadelaw18_compared.f (a0 : Int) (a1_0 : Int) (a1_1 : Int) (a1_2 : Nat) (a1_3 : ByteArray) : Option (Int × ByteArray × Int × Int × Int × Nat × ByteArray × (List (S28)) × (List (S32))) := some (1, (⟨#[99]⟩ : ByteArray), a0, a1_0, a1_1, a1_2, a1_3, ([] : List (S28)), ([] : List (S32)))
set_option maxHeartbeats 8000000 in
set_option maxRecDepth 100000 in
theorem colonnadelaw18_compared.calls (a0 : Int) (a1_0 : Int) (a1_1 : Int) (a1_2 : Nat) (a1_3 : ByteArray) (r1 : Int) (r2 : ByteArray) (r3 : Int) (r4 : Int) (r5 : Int) (r6 : Nat) (r7 : ByteArray) (r8 : List (S28)) (r9 : List (S32)) (w : World) (h : colonnadelaw18_compared.f a0 a1_0 a1_1 a1_2 a1_3 = some (r1, r2, r3, r4, r5, r6, r7, r8, r9)) :
    Calls Try.prog 28 #[.int .i64 a0, .agg #[.int .i64 a1_0, .int .i64 a1_1, .float .f64 a1_2, .string a1_3]] w fun e w' => ∃ v7_ v8_ : Value, e = .returned (.agg #[.int .i64 r1, .string r2, .int .i64 r3, .int .i64 r4, .int .i64 r5, .float .f64 r6, .string r7, v7_, v8_]) ∧ Kd.R k28 28 w' w.heap.size (fun _ => True) v7_ r8 ∧ Kd.R k32 32 w' w.heap.size (fun k_ => some k_ ≠ (v7_ : Value).ownBlock) v8_ r9 ∧ Below w.heap.size w w' := by
  have hu28 := Try.underlying28
  have hu32 := Try.underlying32
  have HB := Aside0.mk (Below.refl w.heap.size w)
  have H : (some (1, (⟨#[99]⟩ : ByteArray), a0, a1_0, a1_1, a1_2, a1_3, ([] : List (S28)), ([] : List (S32)))) = some (r1, r2, r3, r4, r5, r6, r7, r8, r9) := h
  clear h
  simp only [Option.some.injEq, Prod.mk.injEq] at H
  obtain ⟨rfl, rfl, rfl, rfl, rfl, rfl, rfl, rfl, rfl⟩ := H
  go_enter Try.func28, Try.ntmps28
  go_wp2_with (first | ((with_reducible refine gate_dst (N := 3) rfl ?_); refine box_event ?hg (N := 3) ?hd (cs := #[.int .i64 a1_0, .int .i64 a1_1, .float .f64 a1_2, .string a1_3]) (t := 28) ?hr ?_; (case hd => rfl); (case hg => rfl); (case hr => first | (go_simp; done) | (go_simp; rfl)); intro gb414 hg w3 hbox hb; have n0_ := Aside0.mk (below_step (by repeat (first | (with_reducible first | exact HB.out | apply below_alloc | apply pw_below_drewN | apply below_drew1) | exact HB.out)) hb); have n1_ := Aside0.mk (hbox); have n2_ := Aside0.mk ((by rw [hg]; exact (below_size (by repeat (first | (with_reducible first | exact HB.out | apply below_alloc | apply pw_below_drewN | apply below_drew1) | exact HB.out))) : w.heap.size ≤ gb414)); have n3_ := Aside0.mk ((by rw [hg]; exact (below_size (by repeat (first | (with_reducible first | exact HB.out | apply below_alloc | apply pw_below_drewN | apply below_drew1) | exact HB.out))) : w.heap.size ≤ gb414)); clear HB; have HB := n0_; have BK414 := n1_; have GW414 := n2_; have GE414 := n3_; clear n0_ n1_ n2_ n3_; clear hb hbox hg) | ((with_reducible refine gate_dst (N := 4) rfl ?_); refine box_event ?hg (N := 4) ?hd (cs := #[.int .i64 0, .string (⟨#[]⟩ : ByteArray), .int .i64 0, .int .i64 0, .int .i64 0, .float .f64 (0 : Nat), .string (⟨#[]⟩ : ByteArray), .slice none 0 0, .slice none 0 0]) (t := 32) ?hr ?_; (case hd => rfl); (case hg => rfl); (case hr => first | (go_simp; done) | (go_simp; rfl)); intro gb415 hg w4 hbox hb; have n0_ := blkS BK414 hb; have n1_ := Aside0.mk (below_step (by repeat (first | (with_reducible first | exact HB.out | apply below_alloc | apply pw_below_drewN | apply below_drew1 | refine below_set ?_ GE414.out) | exact HB.out)) hb); have n2_ := Aside0.mk (hbox); have n3_ := Aside0.mk ((by rw [hg]; exact (below_size (by repeat (first | (with_reducible first | exact HB.out | apply below_alloc | apply pw_below_drewN | apply below_drew1 | refine below_set ?_ GE414.out) | exact HB.out))) : w.heap.size ≤ gb415)); have n4_ := Aside0.mk ((by rw [hg]; exact (below_size (by repeat (first | (with_reducible first | exact HB.out | apply below_alloc | apply pw_below_drewN | apply below_drew1 | refine below_set ?_ GE414.out) | exact HB.out))) : w.heap.size ≤ gb415)); have n5_ := Aside0.mk ((by rw [hg]; exact Nat.ne_of_lt (blk_lt (g := gb414) (o := .cells #[.int .i64 a1_0, .int .i64 a1_1, .float .f64 a1_2, .string a1_3] 28 (0, 0)) (by (with_reducible repeat (first | refine blk_drewN ?_ _ | refine blk_drew ?_ | refine blk_alloc ?_ _)); exact BK414.out)) : gb414 ≠ gb415)); have n6_ := Aside0.mk ((by rw [hg]; exact Nat.ne_of_gt (blk_lt (g := gb414) (o := .cells #[.int .i64 a1_0, .int .i64 a1_1, .float .f64 a1_2, .string a1_3] 28 (0, 0)) (by (with_reducible repeat (first | refine blk_drewN ?_ _ | refine blk_drew ?_ | refine blk_alloc ?_ _)); exact BK414.out)) : gb415 ≠ gb414)); clear BK414; clear HB; have BK414 := n0_; have HB := n1_; have BK415 := n2_; have GW415 := n3_; have GE415 := n4_; have NB414_415 := n5_; have NB415_414 := n6_; clear n0_ n1_ n2_ n3_ n4_ n5_ n6_; clear hb hbox hg; have hnb5 := NB414_415.out; have hnc5 := NB415_414.out; obtain ⟨hcz6_0, hcz6_1, hcz6_2, hcz6_3⟩ := cells_4 BK414.out; obtain ⟨hfz6_0, hfz6_1, hfz6_2, hfz6_3⟩ := froz_4 BK414.out; obtain ⟨hcz7_0, hcz7_1, hcz7_2, hcz7_3, hcz7_4, hcz7_5, hcz7_6, hcz7_7, hcz7_8⟩ := cells_9 BK415.out; obtain ⟨hfz7_0, hfz7_1, hfz7_2, hfz7_3, hfz7_4, hfz7_5, hfz7_6, hfz7_7, hfz7_8⟩ := froz_9 BK415.out))
  refine bodyPost_ret (results_cell_row rfl _ _ gb415 32 #[.int .i64 1, .string (⟨#[99]⟩ : ByteArray), .int .i64 a0, .int .i64 a1_0, .int .i64 a1_1, .float .f64 a1_2, .string a1_3, .slice none 0 0, .slice none 0 0] (0, 0) _ rfl (by (with_reducible repeat (first | refine blk_drewN ?_ _ | refine blk_drew ?_ | refine blk_alloc ?_ _)); refine blk_put (cs := #[.int .i64 1, .string (⟨#[99]⟩ : ByteArray), .int .i64 a0, .int .i64 a1_0, .int .i64 a1_1, .float .f64 a1_2, .string a1_3, .slice none 0 0, .slice none 0 0]) ?_ 8 _ rfl; (with_reducible repeat (first | refine blk_drewN ?_ _ | refine blk_drew ?_ | refine blk_alloc ?_ _)); refine blk_put (cs := #[.int .i64 1, .string (⟨#[99]⟩ : ByteArray), .int .i64 a0, .int .i64 a1_0, .int .i64 a1_1, .float .f64 a1_2, .string a1_3, .slice none 0 0, .slice none 0 0]) ?_ 7 _ rfl; (with_reducible repeat (first | refine blk_drewN ?_ _ | refine blk_drew ?_ | refine blk_alloc ?_ _)); refine blk_put (cs := #[.int .i64 1, .string (⟨#[99]⟩ : ByteArray), .int .i64 a0, .int .i64 a1_0, .int .i64 a1_1, .float .f64 a1_2, .string (⟨#[]⟩ : ByteArray), .slice none 0 0, .slice none 0 0]) ?_ 6 _ rfl; (with_reducible repeat (first | refine blk_drewN ?_ _ | refine blk_drew ?_ | refine blk_alloc ?_ _)); refine blk_put (cs := #[.int .i64 1, .string (⟨#[99]⟩ : ByteArray), .int .i64 a0, .int .i64 a1_0, .int .i64 a1_1, .float .f64 (0 : Nat), .string (⟨#[]⟩ : ByteArray), .slice none 0 0, .slice none 0 0]) ?_ 5 _ rfl; (with_reducible repeat (first | refine blk_drewN ?_ _ | refine blk_drew ?_ | refine blk_alloc ?_ _)); refine blk_put (cs := #[.int .i64 1, .string (⟨#[99]⟩ : ByteArray), .int .i64 a0, .int .i64 a1_0, .int .i64 0, .float .f64 (0 : Nat), .string (⟨#[]⟩ : ByteArray), .slice none 0 0, .slice none 0 0]) ?_ 4 _ rfl; (with_reducible repeat (first | refine blk_drewN ?_ _ | refine blk_drew ?_ | refine blk_alloc ?_ _)); refine blk_put (cs := #[.int .i64 1, .string (⟨#[99]⟩ : ByteArray), .int .i64 a0, .int .i64 0, .int .i64 0, .float .f64 (0 : Nat), .string (⟨#[]⟩ : ByteArray), .slice none 0 0, .slice none 0 0]) ?_ 3 _ rfl; (with_reducible repeat (first | refine blk_drewN ?_ _ | refine blk_drew ?_ | refine blk_alloc ?_ _)); refine blk_put (cs := #[.int .i64 1, .string (⟨#[99]⟩ : ByteArray), .int .i64 0, .int .i64 0, .int .i64 0, .float .f64 (0 : Nat), .string (⟨#[]⟩ : ByteArray), .slice none 0 0, .slice none 0 0]) ?_ 2 _ rfl; (with_reducible repeat (first | refine blk_drewN ?_ _ | refine blk_drew ?_ | refine blk_alloc ?_ _)); refine blk_put (cs := #[.int .i64 1, .string (⟨#[]⟩ : ByteArray), .int .i64 0, .int .i64 0, .int .i64 0, .float .f64 (0 : Nat), .string (⟨#[]⟩ : ByteArray), .slice none 0 0, .slice none 0 0]) ?_ 1 _ rfl; (with_reducible repeat (first | refine blk_drewN ?_ _ | refine blk_drew ?_ | refine blk_alloc ?_ _)); refine blk_put (cs := #[.int .i64 0, .string (⟨#[]⟩ : ByteArray), .int .i64 0, .int .i64 0, .int .i64 0, .float .f64 (0 : Nat), .string (⟨#[]⟩ : ByteArray), .slice none 0 0, .slice none 0 0]) ?_ 0 _ rfl; (with_reducible repeat (first | refine blk_drewN ?_ _ | refine blk_drew ?_ | refine blk_alloc ?_ _)); exact BK415.out) Try.underlying32 rfl (by kernel_rfl)) rfl ?_
  exact ⟨_, _, by first | rfl | (simp [errW_none, errW_some] <;> rfl) | (simp [*, errW_none, errW_some] <;> rfl), by first | exact Kd.R_nil _ _ _ _ _ | exact Kd.N_nil _ _ _ _ _ | exact Kd.V_nil _ _ _ _ _ | exact Kd.Q_nil _ _ _ _ _ | exact Kd.S_nil _ _ _ _ _, by first | exact Kd.R_nil _ _ _ _ _ | exact Kd.N_nil _ _ _ _ _ | exact Kd.V_nil _ _ _ _ _ | exact Kd.Q_nil _ _ _ _ _ | exact Kd.S_nil _ _ _ _ _, by repeat (first | (with_reducible first | exact HB.out | apply below_alloc | apply pw_below_drewN | apply below_drew1 | refine below_set ?_ GE414.out | refine below_set ?_ GE415.out) | exact HB.out)⟩

end Go.Proofs.Ytkedejphebfneaa.Pa
end
section
/- The closure of atom.Check, its walk by hand: is a value wrong for a column? -/
namespace Go.Proofs.Ytkedejphebfneaa.Pa
open Go.Proofs.Ytkedejphebfneaa.L Go.RowKit Go.Proofs.YtkedejphebfneaaW.PrintWords Go.Proofs.YtkedejphebfneaaW.PrintLast Go.Proofs.YtkedejphebfneaaW.PrintMore
set_option linter.unusedVariables false
set_option linter.unusedSimpArgs false
attribute [local go_sem] run_store_float cmp_feq cmp_fne cmp_flt cmp_fle cmp_fgt cmp_fge un_fneg equalIn_feq run_fop run_fint run_freal cmp_sgt
/-- Is a value wrong for the column at a place? -/
def wrongT (k : Nat) (cols : List S23) (at_ : Int) (c : S28) : Option Bool :=
  (value_May.f k c.f0 c.f1 c.f2 c.f3).bind fun b => if b = true then (if c.f0 = 0 then some true else some (c.f0 != (rd_T23 cols at_).f1)) else some true
theorem wrongT_mono (k : Nat) (cols : List S23) (at_ : Int) (c : S28) : LeO (wrongT k cols at_ c) (wrongT (k + 1) cols at_ c) := by
  unfold wrongT
  exact LeO.bind (value_May.mono _ _ _ _ _) (fun _ => LeO.refl _)
theorem keepW {w W : World} {g1 g2 g3 : Nat} {a : Addr} {v1 v2 v3 x0 x1 x2 x3 : Value} (hB : Below w.heap.size w W) (h1 : w.cell? ⟨g1, 0, none⟩ = some v1) (h2 : w.cell? ⟨g2, 0, none⟩ = some v2) (h3 : w.cell? a = some v3)
    (y0 : w.cell? ⟨g3, 0, none⟩ = some x0) (y1 : w.cell? ⟨g3, 1, none⟩ = some x1) (y2 : w.cell? ⟨g3, 2, none⟩ = some x2) (y3 : w.cell? ⟨g3, 3, none⟩ = some x3) :
    W.cell? ⟨g1, 0, none⟩ = some v1 ∧ W.cell? ⟨g2, 0, none⟩ = some v2 ∧ W.cell? a = some v3 ∧ W.cell? ⟨g3, 0, none⟩ = some x0 ∧ W.cell? ⟨g3, 1, none⟩ = some x1 ∧ W.cell? ⟨g3, 2, none⟩ = some x2 ∧ W.cell? ⟨g3, 3, none⟩ = some x3 ∧ Aside0 (Below w.heap.size w W) :=
  ⟨pw_cell_below hB h1, pw_cell_below hB h2, pw_cell_below hB h3, pw_cell_below hB y0, pw_cell_below hB y1, pw_cell_below hB y2, pw_cell_below hB y3, ⟨hB⟩⟩
set_option maxHeartbeats 8000000 in
theorem chk_closure (k : Nat) (g1 g2 : Nat) (A0 : Option Addr) (c0 : Nat) (cols : List S23) (at_ : Int) (c : S28) (r : Bool) (w : World) (hb1 : w.heap[g1]? = some (.cells #[.slice A0 cols.length c0] 24 (0, 0))) (hb2 : w.heap[g2]? = some (.cells #[.int .i64 at_] 3 (0, 0)))
    (hC : Kd.C k23 w A0 cols.length cols) (h0 : 0 ≤ at_) (h1 : at_ < cols.length) (h : wrongT k cols at_ c = some r) :
    Calls Try.prog 43 #[.agg #[.int .i64 c.f0, .int .i64 c.f1, .float .f64 c.f2, .string c.f3], .pointer (some ⟨g1, 0, none⟩), .pointer (some ⟨g2, 0, none⟩)] w fun e w' => e = .returned (.bool r) ∧ Below w.heap.size w w' := by
  unfold wrongT at h
  obtain ⟨b, hm, h9⟩ := Option.bind_eq_some_iff.1 h
  clear h
  obtain ⟨W0, hW0⟩ : ∃ W0, W0 = w.alloc (.cells #[.int .i64 c.f0, .int .i64 c.f1, .float .f64 c.f2, .string c.f3] 28) := ⟨_, rfl⟩
  have hM := Aside0.mk (fun W => value_May.calls k c.f0 c.f1 c.f2 c.f3 b W hm)
  have hB0 := Aside0.mk (show Below w.heap.size w W0 by rw [hW0]; exact below_alloc (Below.refl _ _) _)
  obtain ⟨ad, e1, x0, x1, x2⟩ := at_T23 (Kd.C_below hC hB0.out) at_ h0 h1
  subst e1
  obtain ⟨d, hd⟩ : ∃ d, d = rd_T23 cols at_ := ⟨_, rfl⟩
  rw [← hd] at x0 x1 x2 h9
  have y1 : W0.cell? ⟨g1, 0, none⟩ = some (.slice (some ad) cols.length c0) := by rw [hW0]; exact (blk_cell (blk_alloc hb1 _) 0).trans rfl
  have y2 : W0.cell? ⟨g2, 0, none⟩ = some (.int .i64 at_) := by rw [hW0]; exact (blk_cell (blk_alloc hb2 _) 0).trans rfl
  have hbn : W0.heap[w.heap.size]? = some (.cells #[.int .i64 c.f0, .int .i64 c.f1, .float .f64 c.f2, .string c.f3] 28 (0, 0)) := by rw [hW0]; exact blk_new _ _
  have z0 : W0.cell? ⟨w.heap.size, 0, none⟩ = some (.int .i64 c.f0) := (blk_cell hbn 0).trans rfl
  have z1 : W0.cell? ⟨w.heap.size, 1, none⟩ = some (.int .i64 c.f1) := (blk_cell hbn 1).trans rfl
  have z2 : W0.cell? ⟨w.heap.size, 2, none⟩ = some (.float .f64 c.f2) := (blk_cell hbn 2).trans rfl
  have z3 : W0.cell? ⟨w.heap.size, 3, none⟩ = some (.string c.f3) := (blk_cell hbn 3).trans rfl
  have q0 : decide (0 ≤ at_) = true := decide_eq_true h0
  have q1 : decide (at_ < (cols.length : Int)) = true := decide_eq_true h1
  clear hb1 hb2 hC hbn hm x0 x2
  replace hd := Aside0.mk hd
  have H := Aside0.mk h9
  have HW0 := Aside0.mk hW0
  clear h9 hW0
  go_enter Try.func43, Try.ntmps43
  go_wp2_with (fail)
  rw [← HW0.out]
  have H1 := H.out
  have keep0 := fun (W : World) (hB : Below W0.heap.size W0 W) => keepW hB y1 y2 x1 z0 z1 z2 z3
  replace keep0 := Aside0.mk keep0
  by_cases hb : b = true
  · rw [if_pos hb] at H1
    subst hb
    by_cases hk : c.f0 = 0
    · rw [if_pos hk] at H1
      obtain rfl := Option.some.inj H1
      clear H1 H
      have hk0 : (c.f0 == 0) = true := by simpa using hk
      clear hk
      refine start_ (n := 19) (S := fun w' => w'.cell? ⟨g1, 0, none⟩ = some (.slice (some ad) cols.length c0) ∧ w'.cell? ⟨g2, 0, none⟩ = some (.int .i64 at_) ∧ w'.cell? ⟨(ad.add (at_.toNat * 3)).block, (ad.add (at_.toNat * 3)).off + 1, none⟩ = some (.int .i64 d.f1) ∧ w'.cell? ⟨w.heap.size, 0, none⟩ = some (.int .i64 c.f0) ∧ w'.cell? ⟨w.heap.size, 1, none⟩ = some (.int .i64 c.f1) ∧ w'.cell? ⟨w.heap.size, 2, none⟩ = some (.float .f64 c.f2) ∧ w'.cell? ⟨w.heap.size, 3, none⟩ = some (.string c.f3) ∧ Aside0 (Below W0.heap.size W0 w')) (ds := []) #[false, false, false, false, false, false, false, false, false, false, false, false, false, false, false, false, false, false, false] (by kernel_rfl) rfl rfl (keep0.out _ (below_drew (Below.refl _ _))) (fun hHeld => ?_)
      refine takeP #[true, false, false, false, false, false, false, false, false, false, false, false, false, false, false, false, false, false, false] (by kernel_rfl) hHeld (i := 0) (N := some 5) ?_
      refine one_ (i := 1) (N := some 6) #[true, true, false, false, false, false, false, false, false, false, false, false, false, false, false, false, false, false, false] rfl rfl (by kernel_rfl) (by decide) (fun K hK => ?_)
      refine goes_ Try.func44 (by kernel_rfl) rfl #[.agg #[.int .i64 c.f0, .int .i64 c.f1, .float .f64 c.f2, .string c.f3]] (by rfl) rfl rfl (by (try simp only [List.map_toArray, List.map_cons, List.map_nil]); first | done | rfl) ?_
      refine (hM.out _).mono ?_
      rintro e w2 ⟨rfl, hb2⟩
      refine ⟨_, rfl, ?_⟩
      have hb3 : Below W0.heap.size W0 w2 := below_then (below_drew (Below.refl _ _)) (Nat.le_refl _) hb2
      have HB3 := Aside0.mk (below_then hB0.out hB0.out.size hb3)
      refine hK.out _ _ (keep0.out _ hb3) (fun hHeld => ?_)
      clear hb2 hb3
      clear hK K
      refine norm_ (a' := ?_) ?_ ?_
      rotate_left
      · show Act.put _ (some 6) _ = _
        simp only [Act.put, List.setIfInBounds_toArray, List.set_cons_zero, List.set_cons_succ, i64_w, i32_w]
        rfl
      refine pureP #[true, true, true, false, false, false, false, false, false, false, false, false, false, false, false, false, false, false, false] (by kernel_rfl) (i := 2) (N := some 7) ?_
      refine pureP #[true, true, true, true, false, false, false, false, false, false, false, false, false, false, false, false, false, false, false] (by kernel_rfl) (i := 3) (N := some 8) ?_
      refine pureP #[true, true, true, true, true, false, false, false, false, false, false, false, false, false, false, false, false, false, false] (by kernel_rfl) (i := 4) (N := some 9) ?_
      refine takeP #[true, true, true, true, true, true, false, false, false, false, false, false, false, false, false, false, false, false, false] (by kernel_rfl) hHeld (i := 5) (N := some 10) ?_
      refine pureP #[true, true, true, true, true, true, true, false, false, false, false, false, false, false, false, false, false, false, false] (by kernel_rfl) (i := 6) (N := some 11) ?_
      refine pureP #[true, true, true, true, true, true, true, true, false, false, false, false, false, false, false, false, false, false, false] (by kernel_rfl) (i := 7) (N := some 12) ?_
      refine pureP #[true, true, true, true, true, true, true, true, true, false, false, false, false, false, false, false, false, false, false] (by kernel_rfl) (i := 8) (N := some 13) ?_
      refine pureO #[true, true, true, true, true, true, true, true, true, true, false, false, false, false, false, false, false, false, false] (by kernel_rfl) (i := 9) (N := some 14) ?_
      refine pureO #[true, true, true, true, true, true, true, true, true, true, true, false, false, false, false, false, false, false, false] (by kernel_rfl) (i := 10) (N := some 15) ?_
      refine pureO #[true, true, true, true, true, true, true, true, true, true, true, true, false, false, false, false, false, false, false] (by kernel_rfl) (i := 11) (N := some 16) ?_
      refine pureO #[true, true, true, true, true, true, true, true, true, true, true, true, true, false, false, false, false, false, false] (by kernel_rfl) (i := 12) (N := some 17) ?_
      refine pureO #[true, true, true, true, true, true, true, true, true, true, true, true, true, true, false, false, false, false, false] (by kernel_rfl) (i := 13) (N := some 18) ?_
      refine pureO #[true, true, true, true, true, true, true, true, true, true, true, true, true, true, true, false, false, false, false] (by kernel_rfl) (i := 14) (N := some 19) ?_
      refine pureO #[true, true, true, true, true, true, true, true, true, true, true, true, true, true, true, true, false, false, false] (by kernel_rfl) (i := 15) (N := some 20) ?_
      refine pureO #[true, true, true, true, true, true, true, true, true, true, true, true, true, true, true, true, true, false, false] (by kernel_rfl) (i := 16) (N := some 21) ?_
      refine pureP #[true, true, true, true, true, true, true, true, true, true, true, true, true, true, true, true, true, true, false] (by kernel_rfl) (i := 17) (N := some 22) ?_
      refine pureP #[true, true, true, true, true, true, true, true, true, true, true, true, true, true, true, true, true, true, true] (by kernel_rfl) (i := 18) (N := some 4) ?_
      refine done_ (by kernel_rfl) ?_
      try go_wp2
      go_ret
      exact ⟨by first | rfl | simp_all, HB3.out⟩
    · rw [if_neg hk] at H1
      obtain rfl := Option.some.inj H1
      clear H1 H
      have hk0 : (c.f0 == 0) = false := by simpa using hk
      clear hk
      refine start_ (n := 19) (S := fun w' => w'.cell? ⟨g1, 0, none⟩ = some (.slice (some ad) cols.length c0) ∧ w'.cell? ⟨g2, 0, none⟩ = some (.int .i64 at_) ∧ w'.cell? ⟨(ad.add (at_.toNat * 3)).block, (ad.add (at_.toNat * 3)).off + 1, none⟩ = some (.int .i64 d.f1) ∧ w'.cell? ⟨w.heap.size, 0, none⟩ = some (.int .i64 c.f0) ∧ w'.cell? ⟨w.heap.size, 1, none⟩ = some (.int .i64 c.f1) ∧ w'.cell? ⟨w.heap.size, 2, none⟩ = some (.float .f64 c.f2) ∧ w'.cell? ⟨w.heap.size, 3, none⟩ = some (.string c.f3) ∧ Aside0 (Below W0.heap.size W0 w')) (ds := []) #[false, false, false, false, false, false, false, false, false, false, false, false, false, false, false, false, false, false, false] (by kernel_rfl) rfl rfl (keep0.out _ (below_drew (Below.refl _ _))) (fun hHeld => ?_)
      refine takeP #[true, false, false, false, false, false, false, false, false, false, false, false, false, false, false, false, false, false, false] (by kernel_rfl) hHeld (i := 0) (N := some 5) ?_
      refine one_ (i := 1) (N := some 6) #[true, true, false, false, false, false, false, false, false, false, false, false, false, false, false, false, false, false, false] rfl rfl (by kernel_rfl) (by decide) (fun K hK => ?_)
      refine goes_ Try.func44 (by kernel_rfl) rfl #[.agg #[.int .i64 c.f0, .int .i64 c.f1, .float .f64 c.f2, .string c.f3]] (by rfl) rfl rfl (by (try simp only [List.map_toArray, List.map_cons, List.map_nil]); first | done | rfl) ?_
      refine (hM.out _).mono ?_
      rintro e w2 ⟨rfl, hb2⟩
      refine ⟨_, rfl, ?_⟩
      have hb3 : Below W0.heap.size W0 w2 := below_then (below_drew (Below.refl _ _)) (Nat.le_refl _) hb2
      have HB3 := Aside0.mk (below_then hB0.out hB0.out.size hb3)
      refine hK.out _ _ (keep0.out _ hb3) (fun hHeld => ?_)
      clear hb2 hb3
      clear hK K
      refine norm_ (a' := ?_) ?_ ?_
      rotate_left
      · show Act.put _ (some 6) _ = _
        simp only [Act.put, List.setIfInBounds_toArray, List.set_cons_zero, List.set_cons_succ, i64_w, i32_w]
        rfl
      refine pureP #[true, true, true, false, false, false, false, false, false, false, false, false, false, false, false, false, false, false, false] (by kernel_rfl) (i := 2) (N := some 7) ?_
      refine pureP #[true, true, true, true, false, false, false, false, false, false, false, false, false, false, false, false, false, false, false] (by kernel_rfl) (i := 3) (N := some 8) ?_
      refine pureP #[true, true, true, true, true, false, false, false, false, false, false, false, false, false, false, false, false, false, false] (by kernel_rfl) (i := 4) (N := some 9) ?_
      refine takeP #[true, true, true, true, true, true, false, false, false, false, false, false, false, false, false, false, false, false, false] (by kernel_rfl) hHeld (i := 5) (N := some 10) ?_
      refine pureP #[true, true, true, true, true, true, true, false, false, false, false, false, false, false, false, false, false, false, false] (by kernel_rfl) (i := 6) (N := some 11) ?_
      refine pureP #[true, true, true, true, true, true, true, true, false, false, false, false, false, false, false, false, false, false, false] (by kernel_rfl) (i := 7) (N := some 12) ?_
      refine pureP #[true, true, true, true, true, true, true, true, true, false, false, false, false, false, false, false, false, false, false] (by kernel_rfl) (i := 8) (N := some 13) ?_
      refine pureP #[true, true, true, true, true, true, true, true, true, true, false, false, false, false, false, false, false, false, false] (by kernel_rfl) (i := 9) (N := some 14) ?_
      refine takeP #[true, true, true, true, true, true, true, true, true, true, true, false, false, false, false, false, false, false, false] (by kernel_rfl) hHeld (i := 10) (N := some 15) ?_
      refine takeP #[true, true, true, true, true, true, true, true, true, true, true, true, false, false, false, false, false, false, false] (by kernel_rfl) hHeld (i := 11) (N := some 16) ?_
      refine takeP #[true, true, true, true, true, true, true, true, true, true, true, true, true, false, false, false, false, false, false] (by kernel_rfl) hHeld (i := 12) (N := some 17) ?_
      refine pureP #[true, true, true, true, true, true, true, true, true, true, true, true, true, true, false, false, false, false, false] (by kernel_rfl) (i := 13) (N := some 18) ?_
      refine pureP #[true, true, true, true, true, true, true, true, true, true, true, true, true, true, true, false, false, false, false] (by kernel_rfl) (i := 14) (N := some 19) ?_
      refine takeP #[true, true, true, true, true, true, true, true, true, true, true, true, true, true, true, true, false, false, false] (by kernel_rfl) hHeld (i := 15) (N := some 20) ?_
      refine pureP #[true, true, true, true, true, true, true, true, true, true, true, true, true, true, true, true, true, false, false] (by kernel_rfl) (i := 16) (N := some 21) ?_
      refine pureP #[true, true, true, true, true, true, true, true, true, true, true, true, true, true, true, true, true, true, false] (by kernel_rfl) (i := 17) (N := some 22) ?_
      refine pureP #[true, true, true, true, true, true, true, true, true, true, true, true, true, true, true, true, true, true, true] (by kernel_rfl) (i := 18) (N := some 4) ?_
      refine done_ (by kernel_rfl) ?_
      try go_wp2
      go_ret
      exact ⟨by first | rfl | simp_all, HB3.out⟩
  · rw [if_neg hb] at H1
    obtain rfl := Option.some.inj H1
    clear H1 H
    obtain rfl : b = false := by simpa using hb
    clear hb
    refine start_ (n := 19) (S := fun w' => w'.cell? ⟨g1, 0, none⟩ = some (.slice (some ad) cols.length c0) ∧ w'.cell? ⟨g2, 0, none⟩ = some (.int .i64 at_) ∧ w'.cell? ⟨(ad.add (at_.toNat * 3)).block, (ad.add (at_.toNat * 3)).off + 1, none⟩ = some (.int .i64 d.f1) ∧ w'.cell? ⟨w.heap.size, 0, none⟩ = some (.int .i64 c.f0) ∧ w'.cell? ⟨w.heap.size, 1, none⟩ = some (.int .i64 c.f1) ∧ w'.cell? ⟨w.heap.size, 2, none⟩ = some (.float .f64 c.f2) ∧ w'.cell? ⟨w.heap.size, 3, none⟩ = some (.string c.f3) ∧ Aside0 (Below W0.heap.size W0 w')) (ds := []) #[false, false, false, false, false, false, false, false, false, false, false, false, false, false, false, false, false, false, false] (by kernel_rfl) rfl rfl (keep0.out _ (below_drew (Below.refl _ _))) (fun hHeld => ?_)
    refine takeP #[true, false, false, false, false, false, false, false, false, false, false, false, false, false, false, false, false, false, false] (by kernel_rfl) hHeld (i := 0) (N := some 5) ?_
    refine one_ (i := 1) (N := some 6) #[true, true, false, false, false, false, false, false, false, false, false, false, false, false, false, false, false, false, false] rfl rfl (by kernel_rfl) (by decide) (fun K hK => ?_)
    refine goes_ Try.func44 (by kernel_rfl) rfl #[.agg #[.int .i64 c.f0, .int .i64 c.f1, .float .f64 c.f2, .string c.f3]] (by rfl) rfl rfl (by (try simp only [List.map_toArray, List.map_cons, List.map_nil]); first | done | rfl) ?_
    refine (hM.out _).mono ?_
    rintro e w2 ⟨rfl, hb2⟩
    refine ⟨_, rfl, ?_⟩
    have hb3 : Below W0.heap.size W0 w2 := below_then (below_drew (Below.refl _ _)) (Nat.le_refl _) hb2
    have HB3 := Aside0.mk (below_then hB0.out hB0.out.size hb3)
    refine hK.out _ _ (keep0.out _ hb3) (fun hHeld => ?_)
    clear hb2 hb3
    clear hK K
    refine norm_ (a' := ?_) ?_ ?_
    rotate_left
    · show Act.put _ (some 6) _ = _
      simp only [Act.put, List.setIfInBounds_toArray, List.set_cons_zero, List.set_cons_succ, i64_w, i32_w]
      rfl
    refine pureP #[true, true, true, false, false, false, false, false, false, false, false, false, false, false, false, false, false, false, false] (by kernel_rfl) (i := 2) (N := some 7) ?_
    refine pureP #[true, true, true, true, false, false, false, false, false, false, false, false, false, false, false, false, false, false, false] (by kernel_rfl) (i := 3) (N := some 8) ?_
    refine pureO #[true, true, true, true, true, false, false, false, false, false, false, false, false, false, false, false, false, false, false] (by kernel_rfl) (i := 4) (N := some 9) ?_
    refine pureO #[true, true, true, true, true, true, false, false, false, false, false, false, false, false, false, false, false, false, false] (by kernel_rfl) (i := 5) (N := some 10) ?_
    refine pureO #[true, true, true, true, true, true, true, false, false, false, false, false, false, false, false, false, false, false, false] (by kernel_rfl) (i := 6) (N := some 11) ?_
    refine pureP #[true, true, true, true, true, true, true, true, false, false, false, false, false, false, false, false, false, false, false] (by kernel_rfl) (i := 7) (N := some 12) ?_
    refine pureP #[true, true, true, true, true, true, true, true, true, false, false, false, false, false, false, false, false, false, false] (by kernel_rfl) (i := 8) (N := some 13) ?_
    refine pureO #[true, true, true, true, true, true, true, true, true, true, false, false, false, false, false, false, false, false, false] (by kernel_rfl) (i := 9) (N := some 14) ?_
    refine pureO #[true, true, true, true, true, true, true, true, true, true, true, false, false, false, false, false, false, false, false] (by kernel_rfl) (i := 10) (N := some 15) ?_
    refine pureO #[true, true, true, true, true, true, true, true, true, true, true, true, false, false, false, false, false, false, false] (by kernel_rfl) (i := 11) (N := some 16) ?_
    refine pureO #[true, true, true, true, true, true, true, true, true, true, true, true, true, false, false, false, false, false, false] (by kernel_rfl) (i := 12) (N := some 17) ?_
    refine pureO #[true, true, true, true, true, true, true, true, true, true, true, true, true, true, false, false, false, false, false] (by kernel_rfl) (i := 13) (N := some 18) ?_
    refine pureO #[true, true, true, true, true, true, true, true, true, true, true, true, true, true, true, false, false, false, false] (by kernel_rfl) (i := 14) (N := some 19) ?_
    refine pureO #[true, true, true, true, true, true, true, true, true, true, true, true, true, true, true, true, false, false, false] (by kernel_rfl) (i := 15) (N := some 20) ?_
    refine pureO #[true, true, true, true, true, true, true, true, true, true, true, true, true, true, true, true, true, false, false] (by kernel_rfl) (i := 16) (N := some 21) ?_
    refine pureP #[true, true, true, true, true, true, true, true, true, true, true, true, true, true, true, true, true, true, false] (by kernel_rfl) (i := 17) (N := some 22) ?_
    refine pureP #[true, true, true, true, true, true, true, true, true, true, true, true, true, true, true, true, true, true, true] (by kernel_rfl) (i := 18) (N := some 4) ?_
    refine done_ (by kernel_rfl) ?_
    try go_wp2
    go_ret
    exact ⟨by first | rfl | simp_all, HB3.out⟩
end Go.Proofs.Ytkedejphebfneaa.Pa
end
