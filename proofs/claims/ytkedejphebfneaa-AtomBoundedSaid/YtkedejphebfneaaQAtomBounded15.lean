/- The texts of AtomBounded, merged: part 15. -/
import Derived.Test.YtkedejphebfneaaQAtomBounded11
import Derived.Test.YtkedejphebfneaaQAtomBounded5
import Derived.Deep.RegionWith
/- The closure of atom.Check, its walk by hand: is a value wrong for a column? -/
namespace Go.Proofs.Ytkedejphebfneaa.Pa
open Go.Proofs.Ytkedejphebfneaa.L Go.RowKit Go.Proofs.YtkedejphebfneaaW.PrintWords Go.Proofs.YtkedejphebfneaaW.PrintLast Go.Proofs.YtkedejphebfneaaW.PrintMore
set_option linter.unusedVariables false
set_option linter.unusedSimpArgs false
attribute [local go_sem] run_store_float cmp_feq cmp_fne cmp_flt cmp_fle cmp_fgt cmp_fge un_fneg equalIn_feq run_fop run_fint run_freal cmp_sgt
def wrongT (k : Nat) (cols : List S23) (at_ : Int) (c : S28) : Option Bool :=
 (value_May.f k c.f0 c.f1 c.f2 c.f3).bind fun b => if b = true then (if c.f0 = 0 then some true else some (c.f0 != (rd_T23 cols at_).f1)) else some true
theorem wrongT_mono (k : Nat) (cols : List S23) (at_ : Int) (c : S28) : LeO (wrongT k cols at_ c) (wrongT (k + 1) cols at_ c) := by
 unfold wrongT
 exact LeO.bind (value_May.mono _ _ _ _ _) (fun _ => LeO.refl _)
theorem keepW {w W : World} {g1 g2 g3 : Nat} {a : Addr} {v1 v2 v3 x0 x1 x2 x3 : Value} (hB : Below w.heap.size w W) (h1 : w.cell? ⟨g1, 0, none⟩ = some v1) (h2 : w.cell? ⟨g2, 0, none⟩ = some v2) (h3 : w.cell? a = some v3)
  (y0 : w.cell? ⟨g3, 0, none⟩ = some x0) (y1 : w.cell? ⟨g3, 1, none⟩ = some x1) (y2 : w.cell? ⟨g3, 2, none⟩ = some x2) (y3 : w.cell? ⟨g3, 3, none⟩ = some x3) :
  W.cell? ⟨g1, 0, none⟩ = some v1 ∧ W.cell? ⟨g2, 0, none⟩ = some v2 ∧ W.cell? a = some v3 ∧ W.cell? ⟨g3, 0, none⟩ = some x0 ∧ W.cell? ⟨g3, 1, none⟩ = some x1 ∧ W.cell? ⟨g3, 2, none⟩ = some x2 ∧ W.cell? ⟨g3, 3, none⟩ = some x3 ∧ Aside0 (Below w.heap.size w W) :=
 ⟨pw_cell_below hB h1, pw_cell_below hB h2, pw_cell_below hB h3, pw_cell_below hB y0, pw_cell_below hB y1, pw_cell_below hB y2, pw_cell_below hB y3, ⟨hB⟩⟩
set_option maxHeartbeats 8000000 in
theorem chk_closure (k : Nat) (g1 g2 : Nat) (A0 : Option Addr) (c0 : Nat) (cols : List S23) (at_ : Int) (c : S28) (r : Bool) (w : World) (hb1 : w.heap[g1]? = some (.cells #[.slice A0 cols.length c0] 24 (0, 0))) (hb2 : w.heap[g2]? = some (.cells #[.int .i64 at_] 3 (0, 0)))
  (hC : Kd.C k23 w A0 cols.length cols) (h0 : 0 ≤ at_) (h1 : at_ < cols.length) (h : wrongT k cols at_ c = some r) :
  Calls Try.prog 43 #[.agg #[.int .i64 c.f0, .int .i64 c.f1, .float .f64 c.f2, .string c.f3], .pointer (some ⟨g1, 0, none⟩), .pointer (some ⟨g2, 0, none⟩)] w fun e w' => e = .returned (.bool r) ∧ Below w.heap.size w w' := by
 unfold wrongT at h
 obtain ⟨b, hm, h9⟩ := Option.bind_eq_some_iff.1 h
 clear h
 obtain ⟨W0, hW0⟩ : ∃ W0, W0 = w.alloc (.cells #[.int .i64 c.f0, .int .i64 c.f1, .float .f64 c.f2, .string c.f3] 28) := ⟨_, rfl⟩
 have hM := Aside0.mk (fun W => value_May.calls k c.f0 c.f1 c.f2 c.f3 b W hm)
 have hB0 := Aside0.mk (show Below w.heap.size w W0 by rw [hW0]; exact below_alloc (Below.refl _ _) _)
 obtain ⟨ad, e1, x0, x1, x2⟩ := at_T23 (Kd.C_below hC hB0.out) at_ h0 h1
 subst e1
 obtain ⟨d, hd⟩ : ∃ d, d = rd_T23 cols at_ := ⟨_, rfl⟩
 rw [← hd] at x0 x1 x2 h9
 have y1 : W0.cell? ⟨g1, 0, none⟩ = some (.slice (some ad) cols.length c0) := by rw [hW0]; exact (blk_cell (blk_alloc hb1 _) 0).trans rfl
 have y2 : W0.cell? ⟨g2, 0, none⟩ = some (.int .i64 at_) := by rw [hW0]; exact (blk_cell (blk_alloc hb2 _) 0).trans rfl
 have hbn : W0.heap[w.heap.size]? = some (.cells #[.int .i64 c.f0, .int .i64 c.f1, .float .f64 c.f2, .string c.f3] 28 (0, 0)) := by rw [hW0]; exact blk_new _ _
 have z0 : W0.cell? ⟨w.heap.size, 0, none⟩ = some (.int .i64 c.f0) := (blk_cell hbn 0).trans rfl
 have z1 : W0.cell? ⟨w.heap.size, 1, none⟩ = some (.int .i64 c.f1) := (blk_cell hbn 1).trans rfl
 have z2 : W0.cell? ⟨w.heap.size, 2, none⟩ = some (.float .f64 c.f2) := (blk_cell hbn 2).trans rfl
 have z3 : W0.cell? ⟨w.heap.size, 3, none⟩ = some (.string c.f3) := (blk_cell hbn 3).trans rfl
 have q0 : decide (0 ≤ at_) = true := decide_eq_true h0
 have q1 : decide (at_ < (cols.length : Int)) = true := decide_eq_true h1
 clear hb1 hb2 hC hbn hm x0 x2
 replace hd := Aside0.mk hd
 have H := Aside0.mk h9
 have HW0 := Aside0.mk hW0
 clear h9 hW0
 go_enter Try.func43, Try.ntmps43
 go_wp2_with (fail)
 rw [← HW0.out]
 have H1 := H.out
 have keep0 := fun (W : World) (hB : Below W0.heap.size W0 W) => keepW hB y1 y2 x1 z0 z1 z2 z3
 replace keep0 := Aside0.mk keep0
 by_cases hb : b = true
 ·rw [if_pos hb] at H1
  subst hb
  by_cases hk : c.f0 = 0
  ·rw [if_pos hk] at H1
   obtain rfl := Option.some.inj H1
   clear H1 H
   have hk0 : (c.f0 == 0) = true := by simpa using hk
   clear hk
   refine start_ (n := 19) (S := fun w' => w'.cell? ⟨g1, 0, none⟩ = some (.slice (some ad) cols.length c0) ∧ w'.cell? ⟨g2, 0, none⟩ = some (.int .i64 at_) ∧ w'.cell? ⟨(ad.add (at_.toNat * 3)).block, (ad.add (at_.toNat * 3)).off + 1, none⟩ = some (.int .i64 d.f1) ∧ w'.cell? ⟨w.heap.size, 0, none⟩ = some (.int .i64 c.f0) ∧ w'.cell? ⟨w.heap.size, 1, none⟩ = some (.int .i64 c.f1) ∧ w'.cell? ⟨w.heap.size, 2, none⟩ = some (.float .f64 c.f2) ∧ w'.cell? ⟨w.heap.size, 3, none⟩ = some (.string c.f3) ∧ Aside0 (Below W0.heap.size W0 w')) (ds := []) #[false, false, false, false, false, false, false, false, false, false, false, false, false, false, false, false, false, false, false] (by kernel_rfl) rfl rfl (keep0.out _ (below_drew (Below.refl _ _))) (fun hHeld => ?_)
   refine takeP #[true, false, false, false, false, false, false, false, false, false, false, false, false, false, false, false, false, false, false] (by kernel_rfl) hHeld (i := 0) (N := some 5) ?_
   refine one_ (i := 1) (N := some 6) #[true, true, false, false, false, false, false, false, false, false, false, false, false, false, false, false, false, false, false] rfl rfl (by kernel_rfl) (by decide) (fun K hK => ?_)
   refine goes_ Try.func44 (by kernel_rfl) rfl #[.agg #[.int .i64 c.f0, .int .i64 c.f1, .float .f64 c.f2, .string c.f3]] (by rfl) rfl rfl (by (try simp only [List.map_toArray, List.map_cons, List.map_nil]); first | done | rfl) ?_
   refine (hM.out _).mono ?_
   rintro e w2 ⟨rfl, hb2⟩
   refine ⟨_, rfl, ?_⟩
   have hb3 : Below W0.heap.size W0 w2 := below_then (below_drew (Below.refl _ _)) (Nat.le_refl _) hb2
   have HB3 := Aside0.mk (below_then hB0.out hB0.out.size hb3)
   refine hK.out _ _ (keep0.out _ hb3) (fun hHeld => ?_)
   clear hb2 hb3
   clear hK K
   refine norm_ (a' := ?_) ?_ ?_
   rotate_left
   ·show Act.put _ (some 6) _ = _
    simp only [Act.put, List.setIfInBounds_toArray, List.set_cons_zero, List.set_cons_succ, i64_w, i32_w]
    rfl
   refine pureP #[true, true, true, false, false, false, false, false, false, false, false, false, false, false, false, false, false, false, false] (by kernel_rfl) (i := 2) (N := some 7) ?_
   refine pureP #[true, true, true, true, false, false, false, false, false, false, false, false, false, false, false, false, false, false, false] (by kernel_rfl) (i := 3) (N := some 8) ?_
   refine pureP #[true, true, true, true, true, false, false, false, false, false, false, false, false, false, false, false, false, false, false] (by kernel_rfl) (i := 4) (N := some 9) ?_
   refine takeP #[true, true, true, true, true, true, false, false, false, false, false, false, false, false, false, false, false, false, false] (by kernel_rfl) hHeld (i := 5) (N := some 10) ?_
   refine pureP #[true, true, true, true, true, true, true, false, false, false, false, false, false, false, false, false, false, false, false] (by kernel_rfl) (i := 6) (N := some 11) ?_
   refine pureP #[true, true, true, true, true, true, true, true, false, false, false, false, false, false, false, false, false, false, false] (by kernel_rfl) (i := 7) (N := some 12) ?_
   refine pureP #[true, true, true, true, true, true, true, true, true, false, false, false, false, false, false, false, false, false, false] (by kernel_rfl) (i := 8) (N := some 13) ?_
   refine pureO #[true, true, true, true, true, true, true, true, true, true, false, false, false, false, false, false, false, false, false] (by kernel_rfl) (i := 9) (N := some 14) ?_
   refine pureO #[true, true, true, true, true, true, true, true, true, true, true, false, false, false, false, false, false, false, false] (by kernel_rfl) (i := 10) (N := some 15) ?_
   refine pureO #[true, true, true, true, true, true, true, true, true, true, true, true, false, false, false, false, false, false, false] (by kernel_rfl) (i := 11) (N := some 16) ?_
   refine pureO #[true, true, true, true, true, true, true, true, true, true, true, true, true, false, false, false, false, false, false] (by kernel_rfl) (i := 12) (N := some 17) ?_
   refine pureO #[true, true, true, true, true, true, true, true, true, true, true, true, true, true, false, false, false, false, false] (by kernel_rfl) (i := 13) (N := some 18) ?_
   refine pureO #[true, true, true, true, true, true, true, true, true, true, true, true, true, true, true, false, false, false, false] (by kernel_rfl) (i := 14) (N := some 19) ?_
   refine pureO #[true, true, true, true, true, true, true, true, true, true, true, true, true, true, true, true, false, false, false] (by kernel_rfl) (i := 15) (N := some 20) ?_
   refine pureO #[true, true, true, true, true, true, true, true, true, true, true, true, true, true, true, true, true, false, false] (by kernel_rfl) (i := 16) (N := some 21) ?_
   refine pureP #[true, true, true, true, true, true, true, true, true, true, true, true, true, true, true, true, true, true, false] (by kernel_rfl) (i := 17) (N := some 22) ?_
   refine pureP #[true, true, true, true, true, true, true, true, true, true, true, true, true, true, true, true, true, true, true] (by kernel_rfl) (i := 18) (N := some 4) ?_
   refine done_ (by kernel_rfl) ?_
   try go_wp2
   go_ret
   exact ⟨by first | rfl | simp_all, HB3.out⟩
  ·rw [if_neg hk] at H1
   obtain rfl := Option.some.inj H1
   clear H1 H
   have hk0 : (c.f0 == 0) = false := by simpa using hk
   clear hk
   refine start_ (n := 19) (S := fun w' => w'.cell? ⟨g1, 0, none⟩ = some (.slice (some ad) cols.length c0) ∧ w'.cell? ⟨g2, 0, none⟩ = some (.int .i64 at_) ∧ w'.cell? ⟨(ad.add (at_.toNat * 3)).block, (ad.add (at_.toNat * 3)).off + 1, none⟩ = some (.int .i64 d.f1) ∧ w'.cell? ⟨w.heap.size, 0, none⟩ = some (.int .i64 c.f0) ∧ w'.cell? ⟨w.heap.size, 1, none⟩ = some (.int .i64 c.f1) ∧ w'.cell? ⟨w.heap.size, 2, none⟩ = some (.float .f64 c.f2) ∧ w'.cell? ⟨w.heap.size, 3, none⟩ = some (.string c.f3) ∧ Aside0 (Below W0.heap.size W0 w')) (ds := []) #[false, false, false, false, false, false, false, false, false, false, false, false, false, false, false, false, false, false, false] (by kernel_rfl) rfl rfl (keep0.out _ (below_drew (Below.refl _ _))) (fun hHeld => ?_)
   refine takeP #[true, false, false, false, false, false, false, false, false, false, false, false, false, false, false, false, false, false, false] (by kernel_rfl) hHeld (i := 0) (N := some 5) ?_
   refine one_ (i := 1) (N := some 6) #[true, true, false, false, false, false, false, false, false, false, false, false, false, false, false, false, false, false, false] rfl rfl (by kernel_rfl) (by decide) (fun K hK => ?_)
   refine goes_ Try.func44 (by kernel_rfl) rfl #[.agg #[.int .i64 c.f0, .int .i64 c.f1, .float .f64 c.f2, .string c.f3]] (by rfl) rfl rfl (by (try simp only [List.map_toArray, List.map_cons, List.map_nil]); first | done | rfl) ?_
   refine (hM.out _).mono ?_
   rintro e w2 ⟨rfl, hb2⟩
   refine ⟨_, rfl, ?_⟩
   have hb3 : Below W0.heap.size W0 w2 := below_then (below_drew (Below.refl _ _)) (Nat.le_refl _) hb2
   have HB3 := Aside0.mk (below_then hB0.out hB0.out.size hb3)
   refine hK.out _ _ (keep0.out _ hb3) (fun hHeld => ?_)
   clear hb2 hb3
   clear hK K
   refine norm_ (a' := ?_) ?_ ?_
   rotate_left
   ·show Act.put _ (some 6) _ = _
    simp only [Act.put, List.setIfInBounds_toArray, List.set_cons_zero, List.set_cons_succ, i64_w, i32_w]
    rfl
   refine pureP #[true, true, true, false, false, false, false, false, false, false, false, false, false, false, false, false, false, false, false] (by kernel_rfl) (i := 2) (N := some 7) ?_
   refine pureP #[true, true, true, true, false, false, false, false, false, false, false, false, false, false, false, false, false, false, false] (by kernel_rfl) (i := 3) (N := some 8) ?_
   refine pureP #[true, true, true, true, true, false, false, false, false, false, false, false, false, false, false, false, false, false, false] (by kernel_rfl) (i := 4) (N := some 9) ?_
   refine takeP #[true, true, true, true, true, true, false, false, false, false, false, false, false, false, false, false, false, false, false] (by kernel_rfl) hHeld (i := 5) (N := some 10) ?_
   refine pureP #[true, true, true, true, true, true, true, false, false, false, false, false, false, false, false, false, false, false, false] (by kernel_rfl) (i := 6) (N := some 11) ?_
   refine pureP #[true, true, true, true, true, true, true, true, false, false, false, false, false, false, false, false, false, false, false] (by kernel_rfl) (i := 7) (N := some 12) ?_
   refine pureP #[true, true, true, true, true, true, true, true, true, false, false, false, false, false, false, false, false, false, false] (by kernel_rfl) (i := 8) (N := some 13) ?_
   refine pureP #[true, true, true, true, true, true, true, true, true, true, false, false, false, false, false, false, false, false, false] (by kernel_rfl) (i := 9) (N := some 14) ?_
   refine takeP #[true, true, true, true, true, true, true, true, true, true, true, false, false, false, false, false, false, false, false] (by kernel_rfl) hHeld (i := 10) (N := some 15) ?_
   refine takeP #[true, true, true, true, true, true, true, true, true, true, true, true, false, false, false, false, false, false, false] (by kernel_rfl) hHeld (i := 11) (N := some 16) ?_
   refine takeP #[true, true, true, true, true, true, true, true, true, true, true, true, true, false, false, false, false, false, false] (by kernel_rfl) hHeld (i := 12) (N := some 17) ?_
   refine pureP #[true, true, true, true, true, true, true, true, true, true, true, true, true, true, false, false, false, false, false] (by kernel_rfl) (i := 13) (N := some 18) ?_
   refine pureP #[true, true, true, true, true, true, true, true, true, true, true, true, true, true, true, false, false, false, false] (by kernel_rfl) (i := 14) (N := some 19) ?_
   refine takeP #[true, true, true, true, true, true, true, true, true, true, true, true, true, true, true, true, false, false, false] (by kernel_rfl) hHeld (i := 15) (N := some 20) ?_
   refine pureP #[true, true, true, true, true, true, true, true, true, true, true, true, true, true, true, true, true, false, false] (by kernel_rfl) (i := 16) (N := some 21) ?_
   refine pureP #[true, true, true, true, true, true, true, true, true, true, true, true, true, true, true, true, true, true, false] (by kernel_rfl) (i := 17) (N := some 22) ?_
   refine pureP #[true, true, true, true, true, true, true, true, true, true, true, true, true, true, true, true, true, true, true] (by kernel_rfl) (i := 18) (N := some 4) ?_
   refine done_ (by kernel_rfl) ?_
   try go_wp2
   go_ret
   exact ⟨by first | rfl | simp_all, HB3.out⟩
 ·rw [if_neg hb] at H1
  obtain rfl := Option.some.inj H1
  clear H1 H
  obtain rfl : b = false := by simpa using hb
  clear hb
  refine start_ (n := 19) (S := fun w' => w'.cell? ⟨g1, 0, none⟩ = some (.slice (some ad) cols.length c0) ∧ w'.cell? ⟨g2, 0, none⟩ = some (.int .i64 at_) ∧ w'.cell? ⟨(ad.add (at_.toNat * 3)).block, (ad.add (at_.toNat * 3)).off + 1, none⟩ = some (.int .i64 d.f1) ∧ w'.cell? ⟨w.heap.size, 0, none⟩ = some (.int .i64 c.f0) ∧ w'.cell? ⟨w.heap.size, 1, none⟩ = some (.int .i64 c.f1) ∧ w'.cell? ⟨w.heap.size, 2, none⟩ = some (.float .f64 c.f2) ∧ w'.cell? ⟨w.heap.size, 3, none⟩ = some (.string c.f3) ∧ Aside0 (Below W0.heap.size W0 w')) (ds := []) #[false, false, false, false, false, false, false, false, false, false, false, false, false, false, false, false, false, false, false] (by kernel_rfl) rfl rfl (keep0.out _ (below_drew (Below.refl _ _))) (fun hHeld => ?_)
  refine takeP #[true, false, false, false, false, false, false, false, false, false, false, false, false, false, false, false, false, false, false] (by kernel_rfl) hHeld (i := 0) (N := some 5) ?_
  refine one_ (i := 1) (N := some 6) #[true, true, false, false, false, false, false, false, false, false, false, false, false, false, false, false, false, false, false] rfl rfl (by kernel_rfl) (by decide) (fun K hK => ?_)
  refine goes_ Try.func44 (by kernel_rfl) rfl #[.agg #[.int .i64 c.f0, .int .i64 c.f1, .float .f64 c.f2, .string c.f3]] (by rfl) rfl rfl (by (try simp only [List.map_toArray, List.map_cons, List.map_nil]); first | done | rfl) ?_
  refine (hM.out _).mono ?_
  rintro e w2 ⟨rfl, hb2⟩
  refine ⟨_, rfl, ?_⟩
  have hb3 : Below W0.heap.size W0 w2 := below_then (below_drew (Below.refl _ _)) (Nat.le_refl _) hb2
  have HB3 := Aside0.mk (below_then hB0.out hB0.out.size hb3)
  refine hK.out _ _ (keep0.out _ hb3) (fun hHeld => ?_)
  clear hb2 hb3
  clear hK K
  refine norm_ (a' := ?_) ?_ ?_
  rotate_left
  ·show Act.put _ (some 6) _ = _
   simp only [Act.put, List.setIfInBounds_toArray, List.set_cons_zero, List.set_cons_succ, i64_w, i32_w]
   rfl
  refine pureP #[true, true, true, false, false, false, false, false, false, false, false, false, false, false, false, false, false, false, false] (by kernel_rfl) (i := 2) (N := some 7) ?_
  refine pureP #[true, true, true, true, false, false, false, false, false, false, false, false, false, false, false, false, false, false, false] (by kernel_rfl) (i := 3) (N := some 8) ?_
  refine pureO #[true, true, true, true, true, false, false, false, false, false, false, false, false, false, false, false, false, false, false] (by kernel_rfl) (i := 4) (N := some 9) ?_
  refine pureO #[true, true, true, true, true, true, false, false, false, false, false, false, false, false, false, false, false, false, false] (by kernel_rfl) (i := 5) (N := some 10) ?_
  refine pureO #[true, true, true, true, true, true, true, false, false, false, false, false, false, false, false, false, false, false, false] (by kernel_rfl) (i := 6) (N := some 11) ?_
  refine pureP #[true, true, true, true, true, true, true, true, false, false, false, false, false, false, false, false, false, false, false] (by kernel_rfl) (i := 7) (N := some 12) ?_
  refine pureP #[true, true, true, true, true, true, true, true, true, false, false, false, false, false, false, false, false, false, false] (by kernel_rfl) (i := 8) (N := some 13) ?_
  refine pureO #[true, true, true, true, true, true, true, true, true, true, false, false, false, false, false, false, false, false, false] (by kernel_rfl) (i := 9) (N := some 14) ?_
  refine pureO #[true, true, true, true, true, true, true, true, true, true, true, false, false, false, false, false, false, false, false] (by kernel_rfl) (i := 10) (N := some 15) ?_
  refine pureO #[true, true, true, true, true, true, true, true, true, true, true, true, false, false, false, false, false, false, false] (by kernel_rfl) (i := 11) (N := some 16) ?_
  refine pureO #[true, true, true, true, true, true, true, true, true, true, true, true, true, false, false, false, false, false, false] (by kernel_rfl) (i := 12) (N := some 17) ?_
  refine pureO #[true, true, true, true, true, true, true, true, true, true, true, true, true, true, false, false, false, false, false] (by kernel_rfl) (i := 13) (N := some 18) ?_
  refine pureO #[true, true, true, true, true, true, true, true, true, true, true, true, true, true, true, false, false, false, false] (by kernel_rfl) (i := 14) (N := some 19) ?_
  refine pureO #[true, true, true, true, true, true, true, true, true, true, true, true, true, true, true, true, false, false, false] (by kernel_rfl) (i := 15) (N := some 20) ?_
  refine pureO #[true, true, true, true, true, true, true, true, true, true, true, true, true, true, true, true, true, false, false] (by kernel_rfl) (i := 16) (N := some 21) ?_
  refine pureP #[true, true, true, true, true, true, true, true, true, true, true, true, true, true, true, true, true, true, false] (by kernel_rfl) (i := 17) (N := some 22) ?_
  refine pureP #[true, true, true, true, true, true, true, true, true, true, true, true, true, true, true, true, true, true, true] (by kernel_rfl) (i := 18) (N := some 4) ?_
  refine done_ (by kernel_rfl) ?_
  try go_wp2
  go_ret
  exact ⟨by first | rfl | simp_all, HB3.out⟩
end Go.Proofs.Ytkedejphebfneaa.Pa
