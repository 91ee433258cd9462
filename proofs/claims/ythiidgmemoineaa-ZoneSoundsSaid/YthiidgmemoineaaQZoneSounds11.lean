/- The texts of ZoneSounds, merged: part 11. -/
import Derived.Test.YthiidgmemoineaaQZoneSounds6
import Derived.Test.YthiidgmemoineaaQZoneSounds7
import Derived.Test.YthiidgmemoineaaQZoneSounds8
import Derived.Test.YthiidgmemoineaaQZoneSounds9
import Derived.Test.YthiidgmemoineaaQZoneSounds10
-- Written by xprint.py, a program of this session, over the kit's print. Not trusted: Lean checks it.
namespace Go.Proofs.Ythiidgmemoineaa.Pa
open Go.RowKit Go.Proofs.YthiidgmemoineaaW.PrintWords Go.Proofs.YthiidgmemoineaaW.PrintLast Go.Proofs.YthiidgmemoineaaW.PrintMore
attribute [local go_sem] max2_int min2_int max_two min_two max_three min_three max_four min_four   -- for this text's walks alone
attribute [local go_sem] run_store_float cmp_feq cmp_fne cmp_flt cmp_fle cmp_fgt cmp_fge un_fneg equalIn_feq run_fop run_fint run_freal cmp_sgt ext_bits ext_frombits ext_cmpb
set_option linter.unusedVariables false
set_option linter.unusedSimpArgs false

/-! ### zone_Sound: function 24 -/
mutual
def zone_Sound.l0 : Nat → Int → List (S28) → Int → Int → ByteArray → Int → Bool → Int → Int → Int → Nat → ByteArray → Int → Int → Nat → ByteArray → List Int → Option (Bool)
  | 0, _, _, _, _, _, _, _, _, _, _, _, _, _, _, _, _, _ => none
  | k + 1, x7, x16, x17, x18, x526000, x526001, x526002, x527000, x527001, x527002, x527003, x527004, x527005, x527006, x527007, x527008, x527009 => if x18 < x17 then (if 0 ≤ x18 then (if x18 < (x16.length : Int) then ((value_Fits.f k x526000 x526001 x526002 ((rd_T28 x16 x18).f0) ((rd_T28 x16 x18).f1) ((rd_T28 x16 x18).f2) ((rd_T28 x16 x18).f3)).bind fun t530 => (if t530 = true then (if ((rd_T28 x16 x18).f0) = 0 then (zone_Sound.l0 k (wrap64 (x7 + 1)) x16 x17 (wrap64 (x18 + 1)) x526000 x526001 x526002 x527000 x527001 x527002 x527003 x527004 x527005 x527006 x527007 x527008 x527009) else ((zone_none.f x527000 x527001 x527002 x527003 x527004 x527005 x527006 x527007 x527008 x527009).bind fun t531 => (if t531 = true then (zone_Sound.j1 k x7 x16 x17 x18 t531 x526000 x526001 x526002 x527000 x527001 x527002 x527003 x527004 x527005 x527006 x527007 x527008 x527009 ((rd_T28 x16 x18).f0) ((rd_T28 x16 x18).f1) ((rd_T28 x16 x18).f2) ((rd_T28 x16 x18).f3)) else ((value_Compare.f k ((rd_T28 x16 x18).f0) ((rd_T28 x16 x18).f1) ((rd_T28 x16 x18).f2) ((rd_T28 x16 x18).f3) x527001 x527002 x527003 x527004).bind fun t532 => (if t532 < 0 then (zone_Sound.j1 k x7 x16 x17 x18 (decide (t532 < 0)) x526000 x526001 x526002 x527000 x527001 x527002 x527003 x527004 x527005 x527006 x527007 x527008 x527009 ((rd_T28 x16 x18).f0) ((rd_T28 x16 x18).f1) ((rd_T28 x16 x18).f2) ((rd_T28 x16 x18).f3)) else ((value_Compare.f k ((rd_T28 x16 x18).f0) ((rd_T28 x16 x18).f1) ((rd_T28 x16 x18).f2) ((rd_T28 x16 x18).f3) x527005 x527006 x527007 x527008).bind fun t533 => (zone_Sound.j1 k x7 x16 x17 x18 (decide (t533 > 0)) x526000 x526001 x526002 x527000 x527001 x527002 x527003 x527004 x527005 x527006 x527007 x527008 x527009 ((rd_T28 x16 x18).f0) ((rd_T28 x16 x18).f1) ((rd_T28 x16 x18).f2) ((rd_T28 x16 x18).f3)))))))) else (some false))) else (none)) else (none)) else (some (x7 == x527000))
def zone_Sound.j1 : Nat → Int → List (S28) → Int → Int → Bool → ByteArray → Int → Bool → Int → Int → Int → Nat → ByteArray → Int → Int → Nat → ByteArray → List Int → Int → Int → Nat → ByteArray → Option (Bool)
  | 0, _, _, _, _, _, _, _, _, _, _, _, _, _, _, _, _, _, _, _, _, _, _ => none
  | k + 1, x7, x16, x17, x18, x33, x526000, x526001, x526002, x527000, x527001, x527002, x527003, x527004, x527005, x527006, x527007, x527008, x527009, x530000, x530001, x530002, x530003 => if x33 = true then (some false) else (if (x527009.length : Int) > 0 then ((bloom_Has.f k x527009 x530000 x530001 x530002 x530003).bind fun t534 => (if t534 = true then (zone_Sound.l0 k x7 x16 x17 (wrap64 (x18 + 1)) x526000 x526001 x526002 x527000 x527001 x527002 x527003 x527004 x527005 x527006 x527007 x527008 x527009) else (some false))) else (zone_Sound.l0 k x7 x16 x17 (wrap64 (x18 + 1)) x526000 x526001 x526002 x527000 x527001 x527002 x527003 x527004 x527005 x527006 x527007 x527008 x527009))
end
def zone_Sound.f (k : Nat) (a0_0 : ByteArray) (a0_1 : Int) (a0_2 : Bool) (l1 : List (S28)) (a2_0 : Int) (a2_1 : Int) (a2_2 : Int) (a2_3 : Nat) (a2_4 : ByteArray) (a2_5 : Int) (a2_6 : Int) (a2_7 : Nat) (a2_8 : ByteArray) (l2_9 : List Int) : Option (Bool) := (zone_May.f k a0_0 a0_1 a0_2 (l1.length : Int) a2_0 a2_1 a2_2 a2_3 a2_4 a2_5 a2_6 a2_7 a2_8 l2_9).bind fun t527 => (if t527 = true then (zone_Sound.l0 k 0 l1 (l1.length : Int) 0 a0_0 a0_1 a0_2 a2_0 a2_1 a2_2 a2_3 a2_4 a2_5 a2_6 a2_7 a2_8 l2_9) else (some false))
theorem zone_Sound.mono_l : ∀ k, (∀ y0 y1 y2 y3 y4 y5 y6 y7 y8 y9 y10 y11 y12 y13 y14 y15 y16, LeO (zone_Sound.l0 k y0 y1 y2 y3 y4 y5 y6 y7 y8 y9 y10 y11 y12 y13 y14 y15 y16) (zone_Sound.l0 (k + 1) y0 y1 y2 y3 y4 y5 y6 y7 y8 y9 y10 y11 y12 y13 y14 y15 y16)) ∧ (∀ y0 y1 y2 y3 y4 y5 y6 y7 y8 y9 y10 y11 y12 y13 y14 y15 y16 y17 y18 y19 y20 y21, LeO (zone_Sound.j1 k y0 y1 y2 y3 y4 y5 y6 y7 y8 y9 y10 y11 y12 y13 y14 y15 y16 y17 y18 y19 y20 y21) (zone_Sound.j1 (k + 1) y0 y1 y2 y3 y4 y5 y6 y7 y8 y9 y10 y11 y12 y13 y14 y15 y16 y17 y18 y19 y20 y21))
  | 0 => ⟨fun _ _ _ _ _ _ _ _ _ _ _ _ _ _ _ _ _ r h => by simp [zone_Sound.l0] at h, fun _ _ _ _ _ _ _ _ _ _ _ _ _ _ _ _ _ _ _ _ _ _ r h => by simp [zone_Sound.j1] at h⟩
  | k + 1 => by
    obtain ⟨ih0, ih1⟩ := zone_Sound.mono_l k
    refine ⟨?_, ?_⟩
    · intro y0 y1 y2 y3 y4 y5 y6 y7 y8 y9 y10 y11 y12 y13 y14 y15 y16
      unfold zone_Sound.l0
      repeat' first
      | (with_reducible exact ih0 _ _ _ _ _ _ _ _ _ _ _ _ _ _ _ _ _)
      | (with_reducible exact ih1 _ _ _ _ _ _ _ _ _ _ _ _ _ _ _ _ _ _ _ _ _ _)
      | (with_reducible exact bloom_Has.mono _ _ _ _ _ _)
      | (with_reducible exact value_Compare.mono _ _ _ _ _ _ _ _ _)
      | (with_reducible exact value_Fits.mono _ _ _ _ _ _ _ _)
      | (with_reducible exact zone_May.mono _ _ _ _ _ _ _ _ _ _ _ _ _ _ _)
      | (with_reducible exact LeO.refl _)
      | (with_reducible exact LeO.none _)
      | (with_reducible refine LeO.ite ?_ ?_)
      | (with_reducible refine LeO.bind ?_ (fun _ => ?_))
      | exact ih0 _ _ _ _ _ _ _ _ _ _ _ _ _ _ _ _ _
      | exact ih1 _ _ _ _ _ _ _ _ _ _ _ _ _ _ _ _ _ _ _ _ _ _
      | exact bloom_Has.mono _ _ _ _ _ _
      | exact value_Compare.mono _ _ _ _ _ _ _ _ _
      | exact value_Fits.mono _ _ _ _ _ _ _ _
      | exact zone_May.mono _ _ _ _ _ _ _ _ _ _ _ _ _ _ _
      | exact LeO.none _
      | refine LeO.ite ?_ ?_
      | refine LeO.bind ?_ (fun _ => ?_)
    · intro y0 y1 y2 y3 y4 y5 y6 y7 y8 y9 y10 y11 y12 y13 y14 y15 y16 y17 y18 y19 y20 y21
      unfold zone_Sound.j1
      repeat' first
      | (with_reducible exact ih0 _ _ _ _ _ _ _ _ _ _ _ _ _ _ _ _ _)
      | (with_reducible exact ih1 _ _ _ _ _ _ _ _ _ _ _ _ _ _ _ _ _ _ _ _ _ _)
      | (with_reducible exact bloom_Has.mono _ _ _ _ _ _)
      | (with_reducible exact value_Compare.mono _ _ _ _ _ _ _ _ _)
      | (with_reducible exact value_Fits.mono _ _ _ _ _ _ _ _)
      | (with_reducible exact zone_May.mono _ _ _ _ _ _ _ _ _ _ _ _ _ _ _)
      | (with_reducible exact LeO.refl _)
      | (with_reducible exact LeO.none _)
      | (with_reducible refine LeO.ite ?_ ?_)
      | (with_reducible refine LeO.bind ?_ (fun _ => ?_))
      | exact ih0 _ _ _ _ _ _ _ _ _ _ _ _ _ _ _ _ _
      | exact ih1 _ _ _ _ _ _ _ _ _ _ _ _ _ _ _ _ _ _ _ _ _ _
      | exact bloom_Has.mono _ _ _ _ _ _
      | exact value_Compare.mono _ _ _ _ _ _ _ _ _
      | exact value_Fits.mono _ _ _ _ _ _ _ _
      | exact zone_May.mono _ _ _ _ _ _ _ _ _ _ _ _ _ _ _
      | exact LeO.none _
      | refine LeO.ite ?_ ?_
      | refine LeO.bind ?_ (fun _ => ?_)
theorem zone_Sound.mono : ∀ a0 a1 a2 a3 a4 a5 a6 a7 a8 a9 a10 a11 a12 a13 k, LeO (zone_Sound.f k a0 a1 a2 a3 a4 a5 a6 a7 a8 a9 a10 a11 a12 a13) (zone_Sound.f (k + 1) a0 a1 a2 a3 a4 a5 a6 a7 a8 a9 a10 a11 a12 a13) := by
  intro a0 a1 a2 a3 a4 a5 a6 a7 a8 a9 a10 a11 a12 a13 k
  obtain ⟨ih0, ih1⟩ := zone_Sound.mono_l k
  unfold zone_Sound.f
  repeat' first
      | (with_reducible exact ih0 _ _ _ _ _ _ _ _ _ _ _ _ _ _ _ _ _)
      | (with_reducible exact ih1 _ _ _ _ _ _ _ _ _ _ _ _ _ _ _ _ _ _ _ _ _ _)
      | (with_reducible exact bloom_Has.mono _ _ _ _ _ _)
      | (with_reducible exact value_Compare.mono _ _ _ _ _ _ _ _ _)
      | (with_reducible exact value_Fits.mono _ _ _ _ _ _ _ _)
      | (with_reducible exact zone_May.mono _ _ _ _ _ _ _ _ _ _ _ _ _ _ _)
      | (with_reducible exact LeO.refl _)
      | (with_reducible exact LeO.none _)
      | (with_reducible refine LeO.ite ?_ ?_)
      | (with_reducible refine LeO.bind ?_ (fun _ => ?_))
      | exact ih0 _ _ _ _ _ _ _ _ _ _ _ _ _ _ _ _ _
      | exact ih1 _ _ _ _ _ _ _ _ _ _ _ _ _ _ _ _ _ _ _ _ _ _
      | exact bloom_Has.mono _ _ _ _ _ _
      | exact value_Compare.mono _ _ _ _ _ _ _ _ _
      | exact value_Fits.mono _ _ _ _ _ _ _ _
      | exact zone_May.mono _ _ _ _ _ _ _ _ _ _ _ _ _ _ _
      | exact LeO.none _
      | refine LeO.ite ?_ ?_
      | refine LeO.bind ?_ (fun _ => ?_)
set_option maxHeartbeats 8000000 in
set_option maxRecDepth 100000 in
theorem zone_Sound.calls (k : Nat) (a0_0 : ByteArray) (a0_1 : Int) (a0_2 : Bool) (A1 : Option Addr) (c1 : Nat) (l1 : List (S28)) (a2_0 : Int) (a2_1 : Int) (a2_2 : Int) (a2_3 : Nat) (a2_4 : ByteArray) (a2_5 : Int) (a2_6 : Int) (a2_7 : Nat) (a2_8 : ByteArray) (A2_9 : Option Addr) (c2_9 : Nat) (l2_9 : List Int) (r : Bool) (w : World) (hr1 : Kd.C k28 w A1 l1.length l1) (hc1 : l1.length ≤ c1) (hr2_9 : Kd.C (Kd.int .u8) w A2_9 l2_9.length l2_9) (hc2_9 : l2_9.length ≤ c2_9) (h : zone_Sound.f k a0_0 a0_1 a0_2 l1 a2_0 a2_1 a2_2 a2_3 a2_4 a2_5 a2_6 a2_7 a2_8 l2_9 = some r) :
    Calls Try.prog 24 #[.agg #[.string a0_0, .int .i64 a0_1, .bool a0_2], .slice A1 l1.length c1, .agg #[.int .i64 a2_0, .int .i64 a2_1, .int .i64 a2_2, .float .f64 a2_3, .string a2_4, .int .i64 a2_5, .int .i64 a2_6, .float .f64 a2_7, .string a2_8, .slice A2_9 l2_9.length c2_9]] w fun e w' => e = .returned (.bool r) ∧ Below w.heap.size w w' := by
  have hu23 := Try.underlying23
  have hu31 := Try.underlying31
  have hu28 := Try.underlying28
  have HR1 := Aside0.mk hr1
  have HC1 := Aside0.mk hc1
  clear hr1 hc1
  have HR2_9 := Aside0.mk hr2_9
  have HC2_9 := Aside0.mk hc2_9
  clear hr2_9 hc2_9
  have HB := Aside0.mk (Below.refl w.heap.size w)
  have H : ((zone_May.f k a0_0 a0_1 a0_2 (l1.length : Int) a2_0 a2_1 a2_2 a2_3 a2_4 a2_5 a2_6 a2_7 a2_8 l2_9).bind fun t527 => (if t527 = true then (zone_Sound.l0 k 0 l1 (l1.length : Int) 0 a0_0 a0_1 a0_2 a2_0 a2_1 a2_2 a2_3 a2_4 a2_5 a2_6 a2_7 a2_8 l2_9) else (some false))) = some r := h
  clear h
  replace H := Option.bind_eq_some_iff.mp H
  obtain ⟨t527, A40, H⟩ := H
  (try dsimp only at H)
  have A4 := Aside0.mk A40
  clear A40
  by_cases c5 : t527 = true
  · subst c5
    rw [if_pos rfl] at H
    have H' := Aside0.mk H
    clear H
    go_enter Try.func24, Try.ntmps24
    go_wp2_with (first | ((with_reducible refine gate_dst (N := 3) rfl ?_); refine box_event ?hg (N := 3) ?hd (cs := #[.string a0_0, .int .i64 a0_1, .bool a0_2]) (t := 23) ?hr ?_; (case hd => rfl); (case hg => rfl); (case hr => first | (go_simp; done) | (go_simp; rfl)); intro gb525 hg w6 hbox hb; have n0_ := Aside0.mk (below_step bel0 hb); have n1_ := Aside0.mk (hbox); have n2_ := Aside0.mk ((by rw [hg]; exact (below_size bel0) : w.heap.size ≤ gb525)); have n3_ := Aside0.mk ((by rw [hg]; exact (below_size bel0) : w.heap.size ≤ gb525)); clear HB; have HB := n0_; have BK525 := n1_; have GW525 := n2_; have GE525 := n3_; clear n0_ n1_ n2_ n3_; clear hb hbox hg) | ((with_reducible refine gate_dst (N := 5) rfl ?_); refine box_event ?hg (N := 5) ?hd (cs := #[.int .i64 a2_0, .int .i64 a2_1, .int .i64 a2_2, .float .f64 a2_3, .string a2_4, .int .i64 a2_5, .int .i64 a2_6, .float .f64 a2_7, .string a2_8, .slice A2_9 l2_9.length c2_9]) (t := 31) ?hr ?_; (case hd => rfl); (case hg => rfl); (case hr => first | (go_simp; done) | (go_simp; rfl)); intro gb526 hg w7 hbox hb; have n0_ := blkS BK525 hb; have n1_ := Aside0.mk (below_step bel0 hb); have n2_ := Aside0.mk (hbox); have n3_ := Aside0.mk ((by rw [hg]; exact (below_size bel0) : w.heap.size ≤ gb526)); have n4_ := Aside0.mk ((by rw [hg]; exact (below_size bel0) : w.heap.size ≤ gb526)); have n5_ := Aside0.mk ((by rw [hg]; exact Nat.ne_of_lt (blk_lt (g := gb525) (o := .cells #[.string a0_0, .int .i64 a0_1, .bool a0_2] 23 (0, 0)) (blk0 BK525)) : gb525 ≠ gb526)); have n6_ := Aside0.mk ((by rw [hg]; exact Nat.ne_of_gt (blk_lt (g := gb525) (o := .cells #[.string a0_0, .int .i64 a0_1, .bool a0_2] 23 (0, 0)) (blk0 BK525)) : gb526 ≠ gb525)); clear BK525; clear HB; have BK525 := n0_; have HB := n1_; have BK526 := n2_; have GW526 := n3_; have GE526 := n4_; have NB525_526 := n5_; have NB526_525 := n6_; clear n0_ n1_ n2_ n3_ n4_ n5_ n6_; clear hb hbox hg; have hnb8 := NB525_526.out; have hnc8 := NB526_525.out; obtain ⟨hcz9_0, hcz9_1, hcz9_2⟩ := cells_3 BK525.out; obtain ⟨hfz9_0, hfz9_1, hfz9_2⟩ := froz_3 BK525.out; obtain ⟨hcz10_0, hcz10_1, hcz10_2, hcz10_3, hcz10_4, hcz10_5, hcz10_6, hcz10_7, hcz10_8, hcz10_9⟩ := cells_10 BK526.out; obtain ⟨hfz10_0, hfz10_1, hfz10_2, hfz10_3, hfz10_4, hfz10_5, hfz10_6, hfz10_7, hfz10_8, hfz10_9⟩ := froz_10 BK526.out) | ((with_reducible refine gate_callee (f := 20) rfl ?_); refine goesQ 14 Try.func20 #[.agg #[.string a0_0, .int .i64 a0_1, .bool a0_2], .int .i64 (l1.length : Int), .agg #[.int .i64 a2_0, .int .i64 a2_1, .int .i64 a2_2, .float .f64 a2_3, .string a2_4, .int .i64 a2_5, .int .i64 a2_6, .float .f64 a2_7, .string a2_8, .slice A2_9 l2_9.length c2_9]] ?_; (with_reducible refine (zone_May.calls k a0_0 a0_1 a0_2 (l1.length : Int) a2_0 a2_1 a2_2 a2_3 a2_4 a2_5 a2_6 a2_7 a2_8 _ _ l2_9 true _ ?side1 ?side2 A4.out).mono ?_); (case side1 => repeat (first | exact (Kd.C_below HR2_9.out HB.out) | (with_reducible refine Kd.C_alloc ?_ _) | (with_reducible refine Kd.C_drewN ?_ _) | (with_reducible refine Kd.C_drew ?_))); (case side2 => exact HC2_9.out); rintro e w11 ⟨rfl, hb⟩; refine ⟨_, rfl, ?_⟩; have n0_ := blkS BK525 hb; have n1_ := blkS BK526 hb; have n2_ := Aside0.mk (below_step bel0 hb); clear BK525; clear BK526; clear HB; have BK525 := n0_; have BK526 := n1_; have HB := n2_; clear n0_ n1_ n2_; (try clear hb); (try clear hb2); (try clear hk); (try clear hi)))
    go_loopg [7, 18] k (fun kq v7 v18 w' => ∃ (x7_1 : Int) (x18_1 : Int), v7 = .int .i64 x7_1 ∧ v18 = .int .i64 x18_1 ∧ Aside0 (zone_Sound.l0 kq x7_1 l1 (l1.length : Int) x18_1 a0_0 a0_1 a0_2 a2_0 a2_1 a2_2 a2_3 a2_4 a2_5 a2_6 a2_7 a2_8 l2_9 = some r) ∧ Aside0 (kq ≤ k) ∧ Aside0 (w'.heap[gb525]? = some (.cells #[.string a0_0, .int .i64 a0_1, .bool a0_2] 23 (0, 0))) ∧ Aside0 (w'.heap[gb526]? = some (.cells #[.int .i64 a2_0, .int .i64 a2_1, .int .i64 a2_2, .float .f64 a2_3, .string a2_4, .int .i64 a2_5, .int .i64 a2_6, .float .f64 a2_7, .string a2_8, (.slice A2_9 l2_9.length c2_9)] 31 (0, 0))) ∧ Aside0 (Below w.heap.size w w'))
    case atStart => exact ⟨(0), (0), (by first | rfl | (simp; done) | (simp [*]; done)), (by first | rfl | (simp; done) | (simp [*]; done)), H', ⟨Nat.le_refl _⟩, ⟨by (with_reducible repeat (first | refine blk_drewN ?_ _ | refine blk_drew ?_ | refine blk_alloc ?_ _)); exact BK525.out⟩, ⟨by (with_reducible repeat (first | refine blk_drewN ?_ _ | refine blk_drew ?_ | refine blk_alloc ?_ _)); exact BK526.out⟩, ⟨bel0⟩⟩
    case round =>
      clear H'
      try clear c1
      try clear c2
      try clear p2
      try clear c5
      try clear c8
      try clear hcz10_0
      try clear hcz10_1
      try clear hcz10_2
      try clear hcz10_3
      try clear hcz10_4
      try clear hcz10_5
      try clear hcz10_6
      try clear hcz10_7
      try clear hcz10_8
      try clear hcz10_9
      try clear hcz9_0
      try clear hcz9_1
      try clear hcz9_2
      try clear hfz10_0
      try clear hfz10_1
      try clear hfz10_2
      try clear hfz10_3
      try clear hfz10_4
      try clear hfz10_5
      try clear hfz10_6
      try clear hfz10_7
      try clear hfz10_8
      try clear hfz10_9
      try clear hfz9_0
      try clear hfz9_1
      try clear hfz9_2
      obtain ⟨x7_1, x18_1, rfl, rfl, HA, HK1, BK525, BK526, HB⟩ := hrel
      cases gk with
      | zero => exact absurd HA.out (by simp [zone_Sound.l0])
      | succ k1 =>
        have H := HA.out
        clear HA
        simp only [zone_Sound.l0] at H
        by_cases c12 : x18_1 < (l1.length : Int)
        · rw [if_pos c12] at H
          have c12b0 : decide (x18_1 < (l1.length : Int)) = true := decide_eq_true c12
          clear c12
          by_cases c13 : 0 ≤ x18_1
          · rw [if_pos c13] at H
            have c13b0 : decide (0 ≤ x18_1) = true := decide_eq_true c13
            clear c13
            by_cases c14 : x18_1 < (l1.length : Int)
            · rw [if_pos c14] at H
              have c14b0 : decide (x18_1 < (l1.length : Int)) = true := decide_eq_true c14
              clear c14
              replace H := Option.bind_eq_some_iff.mp H
              obtain ⟨t530, A150, H⟩ := H
              (try dsimp only at H)
              have A15 := Aside0.mk A150
              clear A150
              by_cases c16 : t530 = true
              · subst c16
                rw [if_pos rfl] at H
                by_cases c17 : ((rd_T28 l1 x18_1).f0) = 0
                · rw [if_pos c17] at H
                  have c17b0 : (((rd_T28 l1 x18_1).f0) == 0) = true := beq_iff_eq.mpr c17
                  have c17b1 : (((rd_T28 l1 x18_1).f0) != 0) = false := bne_eq_false_iff_eq.mpr c17
                  clear c17
                  have H' := Aside0.mk H
                  clear H
                  have p528 : 0 ≤ (x18_1 : Int) := of_decide_eq_true (by first | (with_reducible assumption) | assumption)
                  have q528 : x18_1 < (l1.length : Int) := of_decide_eq_true (by first | (with_reducible assumption) | assumption)
                  obtain ⟨ad528, e528, hx528_0, hx528_1, hx528_2, hx528_3⟩ := at_T28 HR1.out x18_1 p528 q528
                  cases e528
                  replace hx528_0 := (HB.out.cell (World.block_lt_of_cell? w _ hx528_0)).trans hx528_0
                  replace hx528_1 := (HB.out.cell (World.block_lt_of_cell? w _ hx528_1)).trans hx528_1
                  replace hx528_2 := (HB.out.cell (World.block_lt_of_cell? w _ hx528_2)).trans hx528_2
                  replace hx528_3 := (HB.out.cell (World.block_lt_of_cell? w _ hx528_3)).trans hx528_3
                  replace p528 := eq_true p528
                  replace q528 := eq_true q528
                  go_wp2_with (first | ((with_reducible refine gate_dst (N := 9) rfl ?_); refine box_event ?hg (N := 9) ?hd (cs := #[.int .i64 0, .int .i64 0, .float .f64 (0 : Nat), .string (⟨#[]⟩ : ByteArray)]) (t := 28) ?hr ?_; (case hd => rfl); (case hg => rfl); (case hr => first | (go_simp; done) | (go_simp; rfl)); intro gb529 hg w18 hbox hb; have n0_ := blkS BK525 hb; have n1_ := blkS BK526 hb; have n2_ := Aside0.mk (below_step bel0 hb); have n3_ := Aside0.mk (hbox); have n4_ := Aside0.mk ((by rw [hg]; exact (below_size bel0) : w.heap.size ≤ gb529)); have n5_ := Aside0.mk ((by rw [hg]; exact (below_size bel0) : w.heap.size ≤ gb529)); have n6_ := Aside0.mk ((by rw [hg]; exact Nat.ne_of_lt (blk_lt (g := gb525) (o := .cells #[.string a0_0, .int .i64 a0_1, .bool a0_2] 23 (0, 0)) (blk0 BK525)) : gb525 ≠ gb529)); have n7_ := Aside0.mk ((by rw [hg]; exact Nat.ne_of_gt (blk_lt (g := gb525) (o := .cells #[.string a0_0, .int .i64 a0_1, .bool a0_2] 23 (0, 0)) (blk0 BK525)) : gb529 ≠ gb525)); have n8_ := Aside0.mk ((by rw [hg]; exact Nat.ne_of_lt (blk_lt (g := gb526) (o := .cells #[.int .i64 a2_0, .int .i64 a2_1, .int .i64 a2_2, .float .f64 a2_3, .string a2_4, .int .i64 a2_5, .int .i64 a2_6, .float .f64 a2_7, .string a2_8, .slice A2_9 l2_9.length c2_9] 31 (0, 0)) (blk0 BK526)) : gb526 ≠ gb529)); have n9_ := Aside0.mk ((by rw [hg]; exact Nat.ne_of_gt (blk_lt (g := gb526) (o := .cells #[.int .i64 a2_0, .int .i64 a2_1, .int .i64 a2_2, .float .f64 a2_3, .string a2_4, .int .i64 a2_5, .int .i64 a2_6, .float .f64 a2_7, .string a2_8, .slice A2_9 l2_9.length c2_9] 31 (0, 0)) (blk0 BK526)) : gb529 ≠ gb526)); clear BK525; clear BK526; clear HB; have BK525 := n0_; have BK526 := n1_; have HB := n2_; have BK529 := n3_; have GW529 := n4_; have GE529 := n5_; have NB525_529 := n6_; have NB529_525 := n7_; have NB526_529 := n8_; have NB529_526 := n9_; clear n0_ n1_ n2_ n3_ n4_ n5_ n6_ n7_ n8_ n9_; clear hb hbox hg; have hnb19 := NB529_525.out; have hnc19 := NB525_529.out; have hnb20 := NB529_526.out; have hnc20 := NB526_529.out; obtain ⟨hcz21_0, hcz21_1, hcz21_2, hcz21_3⟩ := cells_4 BK529.out; obtain ⟨hfz21_0, hfz21_1, hfz21_2, hfz21_3⟩ := froz_4 BK529.out; have hnb22 := NB525_526.out; have hnc22 := NB526_525.out; obtain ⟨hcz23_0, hcz23_1, hcz23_2⟩ := cells_3 BK525.out; obtain ⟨hfz23_0, hfz23_1, hfz23_2⟩ := froz_3 BK525.out) | ((with_reducible refine gate_callee (f := 49) rfl ?_); refine goesQ 25 Try.func49 #[.agg #[.string a0_0, .int .i64 a0_1, .bool a0_2], .agg #[.int .i64 ((rd_T28 l1 x18_1).f0), .int .i64 ((rd_T28 l1 x18_1).f1), .float .f64 ((rd_T28 l1 x18_1).f2), .string ((rd_T28 l1 x18_1).f3)]] ?_; (with_reducible refine (value_Fits.calls k1 a0_0 a0_1 a0_2 ((rd_T28 l1 x18_1).f0) ((rd_T28 l1 x18_1).f1) ((rd_T28 l1 x18_1).f2) ((rd_T28 l1 x18_1).f3) true _ A15.out).mono ?_); rintro e w24 ⟨rfl, hb⟩; refine ⟨_, rfl, ?_⟩; have n0_ := Aside0.mk (blk_below (g := gb525) (o := .cells #[.string a0_0, .int .i64 a0_1, .bool a0_2] 23 (0, 0)) (by (with_reducible repeat (first | refine blk_drewN ?_ _ | refine blk_drew ?_ | refine blk_alloc ?_ _)); refine blk_far ?_ NB525_529.out _; (with_reducible repeat (first | refine blk_drewN ?_ _ | refine blk_drew ?_ | refine blk_alloc ?_ _)); refine blk_far ?_ NB525_529.out _; (with_reducible repeat (first | refine blk_drewN ?_ _ | refine blk_drew ?_ | refine blk_alloc ?_ _)); refine blk_far ?_ NB525_529.out _; (with_reducible repeat (first | refine blk_drewN ?_ _ | refine blk_drew ?_ | refine blk_alloc ?_ _)); refine blk_far ?_ NB525_529.out _; (with_reducible repeat (first | refine blk_drewN ?_ _ | refine blk_drew ?_ | refine blk_alloc ?_ _)); exact BK525.out) hb); have n1_ := Aside0.mk (blk_below (g := gb526) (o := .cells #[.int .i64 a2_0, .int .i64 a2_1, .int .i64 a2_2, .float .f64 a2_3, .string a2_4, .int .i64 a2_5, .int .i64 a2_6, .float .f64 a2_7, .string a2_8, .slice A2_9 l2_9.length c2_9] 31 (0, 0)) (by (with_reducible repeat (first | refine blk_drewN ?_ _ | refine blk_drew ?_ | refine blk_alloc ?_ _)); refine blk_far ?_ NB526_529.out _; (with_reducible repeat (first | refine blk_drewN ?_ _ | refine blk_drew ?_ | refine blk_alloc ?_ _)); refine blk_far ?_ NB526_529.out _; (with_reducible repeat (first | refine blk_drewN ?_ _ | refine blk_drew ?_ | refine blk_alloc ?_ _)); refine blk_far ?_ NB526_529.out _; (with_reducible repeat (first | refine blk_drewN ?_ _ | refine blk_drew ?_ | refine blk_alloc ?_ _)); refine blk_far ?_ NB526_529.out _; (with_reducible repeat (first | refine blk_drewN ?_ _ | refine blk_drew ?_ | refine blk_alloc ?_ _)); exact BK526.out) hb); have n2_ := Aside0.mk (blk_below (g := gb529) (o := .cells #[.int .i64 ((rd_T28 l1 x18_1).f0), .int .i64 ((rd_T28 l1 x18_1).f1), .float .f64 ((rd_T28 l1 x18_1).f2), .string ((rd_T28 l1 x18_1).f3)] 28 (0, 0)) (by (with_reducible repeat (first | refine blk_drewN ?_ _ | refine blk_drew ?_ | refine blk_alloc ?_ _)); refine blk_put (cs := #[.int .i64 ((rd_T28 l1 x18_1).f0), .int .i64 ((rd_T28 l1 x18_1).f1), .float .f64 ((rd_T28 l1 x18_1).f2), .string (⟨#[]⟩ : ByteArray)]) ?_ 3 _ rfl; (with_reducible repeat (first | refine blk_drewN ?_ _ | refine blk_drew ?_ | refine blk_alloc ?_ _)); refine blk_put (cs := #[.int .i64 ((rd_T28 l1 x18_1).f0), .int .i64 ((rd_T28 l1 x18_1).f1), .float .f64 (0 : Nat), .string (⟨#[]⟩ : ByteArray)]) ?_ 2 _ rfl; (with_reducible repeat (first | refine blk_drewN ?_ _ | refine blk_drew ?_ | refine blk_alloc ?_ _)); refine blk_put (cs := #[.int .i64 ((rd_T28 l1 x18_1).f0), .int .i64 0, .float .f64 (0 : Nat), .string (⟨#[]⟩ : ByteArray)]) ?_ 1 _ rfl; (with_reducible repeat (first | refine blk_drewN ?_ _ | refine blk_drew ?_ | refine blk_alloc ?_ _)); refine blk_put (cs := #[.int .i64 0, .int .i64 0, .float .f64 (0 : Nat), .string (⟨#[]⟩ : ByteArray)]) ?_ 0 _ rfl; (with_reducible repeat (first | refine blk_drewN ?_ _ | refine blk_drew ?_ | refine blk_alloc ?_ _)); exact BK529.out) hb); have n3_ := Aside0.mk (below_step bel0 hb); clear BK525; clear BK526; clear BK529; clear HB; have BK525 := n0_; have BK526 := n1_; have BK529 := n2_; have HB := n3_; clear n0_ n1_ n2_ n3_; (try clear hb); (try clear hb2); (try clear hk); (try clear hi); obtain ⟨hcz25_0, hcz25_1, hcz25_2, hcz25_3⟩ := cells_4 BK529.out; obtain ⟨hfz25_0, hfz25_1, hfz25_2, hfz25_3⟩ := froz_4 BK529.out))
                  go_roundg k1
                  case measure => have := HK1.out; omega
                  case rel => exact ⟨(wrap64 (x7_1 + 1)), (wrap64 (x18_1 + 1)), (by first | rfl | (simp; done) | (simp [*]; done)), (by first | rfl | (simp; done) | (simp [*]; done)), H', ⟨by have := HK1.out; omega⟩, ⟨by (with_reducible repeat (first | refine blk_drewN ?_ _ | refine blk_drew ?_ | refine blk_alloc ?_ _)); exact BK525.out⟩, ⟨by (with_reducible repeat (first | refine blk_drewN ?_ _ | refine blk_drew ?_ | refine blk_alloc ?_ _)); exact BK526.out⟩, ⟨bel0⟩⟩
                · rw [if_neg c17] at H
                  have c17b0 : (((rd_T28 l1 x18_1).f0) == 0) = false := beq_eq_false_iff_ne.mpr c17
                  have c17b1 : (((rd_T28 l1 x18_1).f0) != 0) = true := bne_iff_ne.mpr c17
                  replace H := Option.bind_eq_some_iff.mp H
                  obtain ⟨t531, A260, H⟩ := H
                  (try dsimp only at H)
                  have A26 := Aside0.mk A260
                  clear A260
                  have HC27 := Aside0.mk H
                  clear H
                  have p528 : 0 ≤ (x18_1 : Int) := of_decide_eq_true (by first | (with_reducible assumption) | assumption)
                  have q528 : x18_1 < (l1.length : Int) := of_decide_eq_true (by first | (with_reducible assumption) | assumption)
                  obtain ⟨ad528, e528, hx528_0, hx528_1, hx528_2, hx528_3⟩ := at_T28 HR1.out x18_1 p528 q528
                  cases e528
                  replace hx528_0 := (HB.out.cell (World.block_lt_of_cell? w _ hx528_0)).trans hx528_0
                  replace hx528_1 := (HB.out.cell (World.block_lt_of_cell? w _ hx528_1)).trans hx528_1
                  replace hx528_2 := (HB.out.cell (World.block_lt_of_cell? w _ hx528_2)).trans hx528_2
                  replace hx528_3 := (HB.out.cell (World.block_lt_of_cell? w _ hx528_3)).trans hx528_3
                  replace p528 := eq_true p528
                  replace q528 := eq_true q528
                  go_upto_if 33 with (first | ((with_reducible refine gate_dst (N := 9) rfl ?_); refine box_event ?hg (N := 9) ?hd (cs := #[.int .i64 0, .int .i64 0, .float .f64 (0 : Nat), .string (⟨#[]⟩ : ByteArray)]) (t := 28) ?hr ?_; (case hd => rfl); (case hg => rfl); (case hr => first | (go_simp; done) | (go_simp; rfl)); intro gb529 hg w28 hbox hb; have n0_ := blkS BK525 hb; have n1_ := blkS BK526 hb; have n2_ := Aside0.mk (below_step bel0 hb); have n3_ := Aside0.mk (hbox); have n4_ := Aside0.mk ((by rw [hg]; exact (below_size bel0) : w.heap.size ≤ gb529)); have n5_ := Aside0.mk ((by rw [hg]; exact (below_size bel0) : w.heap.size ≤ gb529)); have n6_ := Aside0.mk ((by rw [hg]; exact Nat.ne_of_lt (blk_lt (g := gb525) (o := .cells #[.string a0_0, .int .i64 a0_1, .bool a0_2] 23 (0, 0)) (blk0 BK525)) : gb525 ≠ gb529)); have n7_ := Aside0.mk ((by rw [hg]; exact Nat.ne_of_gt (blk_lt (g := gb525) (o := .cells #[.string a0_0, .int .i64 a0_1, .bool a0_2] 23 (0, 0)) (blk0 BK525)) : gb529 ≠ gb525)); have n8_ := Aside0.mk ((by rw [hg]; exact Nat.ne_of_lt (blk_lt (g := gb526) (o := .cells #[.int .i64 a2_0, .int .i64 a2_1, .int .i64 a2_2, .float .f64 a2_3, .string a2_4, .int .i64 a2_5, .int .i64 a2_6, .float .f64 a2_7, .string a2_8, .slice A2_9 l2_9.length c2_9] 31 (0, 0)) (blk0 BK526)) : gb526 ≠ gb529)); have n9_ := Aside0.mk ((by rw [hg]; exact Nat.ne_of_gt (blk_lt (g := gb526) (o := .cells #[.int .i64 a2_0, .int .i64 a2_1, .int .i64 a2_2, .float .f64 a2_3, .string a2_4, .int .i64 a2_5, .int .i64 a2_6, .float .f64 a2_7, .string a2_8, .slice A2_9 l2_9.length c2_9] 31 (0, 0)) (blk0 BK526)) : gb529 ≠ gb526)); clear BK525; clear BK526; clear HB; have BK525 := n0_; have BK526 := n1_; have HB := n2_; have BK529 := n3_; have GW529 := n4_; have GE529 := n5_; have NB525_529 := n6_; have NB529_525 := n7_; have NB526_529 := n8_; have NB529_526 := n9_; clear n0_ n1_ n2_ n3_ n4_ n5_ n6_ n7_ n8_ n9_; clear hb hbox hg; have hnb29 := NB529_525.out; have hnc29 := NB525_529.out; have hnb30 := NB529_526.out; have hnc30 := NB526_529.out; obtain ⟨hcz31_0, hcz31_1, hcz31_2, hcz31_3⟩ := cells_4 BK529.out; obtain ⟨hfz31_0, hfz31_1, hfz31_2, hfz31_3⟩ := froz_4 BK529.out; have hnb32 := NB525_526.out; have hnc32 := NB526_525.out; obtain ⟨hcz33_0, hcz33_1, hcz33_2⟩ := cells_3 BK525.out; obtain ⟨hfz33_0, hfz33_1, hfz33_2⟩ := froz_3 BK525.out) | ((with_reducible refine gate_callee (f := 49) rfl ?_); refine goesQ 25 Try.func49 #[.agg #[.string a0_0, .int .i64 a0_1, .bool a0_2], .agg #[.int .i64 ((rd_T28 l1 x18_1).f0), .int .i64 ((rd_T28 l1 x18_1).f1), .float .f64 ((rd_T28 l1 x18_1).f2), .string ((rd_T28 l1 x18_1).f3)]] ?_; (with_reducible refine (value_Fits.calls k1 a0_0 a0_1 a0_2 ((rd_T28 l1 x18_1).f0) ((rd_T28 l1 x18_1).f1) ((rd_T28 l1 x18_1).f2) ((rd_T28 l1 x18_1).f3) true _ A15.out).mono ?_); rintro e w34 ⟨rfl, hb⟩; refine ⟨_, rfl, ?_⟩; have n0_ := Aside0.mk (blk_below (g := gb525) (o := .cells #[.string a0_0, .int .i64 a0_1, .bool a0_2] 23 (0, 0)) (by (with_reducible repeat (first | refine blk_drewN ?_ _ | refine blk_drew ?_ | refine blk_alloc ?_ _)); refine blk_far ?_ NB525_529.out _; (with_reducible repeat (first | refine blk_drewN ?_ _ | refine blk_drew ?_ | refine blk_alloc ?_ _)); refine blk_far ?_ NB525_529.out _; (with_reducible repeat (first | refine blk_drewN ?_ _ | refine blk_drew ?_ | refine blk_alloc ?_ _)); refine blk_far ?_ NB525_529.out _; (with_reducible repeat (first | refine blk_drewN ?_ _ | refine blk_drew ?_ | refine blk_alloc ?_ _)); refine blk_far ?_ NB525_529.out _; (with_reducible repeat (first | refine blk_drewN ?_ _ | refine blk_drew ?_ | refine blk_alloc ?_ _)); exact BK525.out) hb); have n1_ := Aside0.mk (blk_below (g := gb526) (o := .cells #[.int .i64 a2_0, .int .i64 a2_1, .int .i64 a2_2, .float .f64 a2_3, .string a2_4, .int .i64 a2_5, .int .i64 a2_6, .float .f64 a2_7, .string a2_8, .slice A2_9 l2_9.length c2_9] 31 (0, 0)) (by (with_reducible repeat (first | refine blk_drewN ?_ _ | refine blk_drew ?_ | refine blk_alloc ?_ _)); refine blk_far ?_ NB526_529.out _; (with_reducible repeat (first | refine blk_drewN ?_ _ | refine blk_drew ?_ | refine blk_alloc ?_ _)); refine blk_far ?_ NB526_529.out _; (with_reducible repeat (first | refine blk_drewN ?_ _ | refine blk_drew ?_ | refine blk_alloc ?_ _)); refine blk_far ?_ NB526_529.out _; (with_reducible repeat (first | refine blk_drewN ?_ _ | refine blk_drew ?_ | refine blk_alloc ?_ _)); refine blk_far ?_ NB526_529.out _; (with_reducible repeat (first | refine blk_drewN ?_ _ | refine blk_drew ?_ | refine blk_alloc ?_ _)); exact BK526.out) hb); have n2_ := Aside0.mk (blk_below (g := gb529) (o := .cells #[.int .i64 ((rd_T28 l1 x18_1).f0), .int .i64 ((rd_T28 l1 x18_1).f1), .float .f64 ((rd_T28 l1 x18_1).f2), .string ((rd_T28 l1 x18_1).f3)] 28 (0, 0)) (by (with_reducible repeat (first | refine blk_drewN ?_ _ | refine blk_drew ?_ | refine blk_alloc ?_ _)); refine blk_put (cs := #[.int .i64 ((rd_T28 l1 x18_1).f0), .int .i64 ((rd_T28 l1 x18_1).f1), .float .f64 ((rd_T28 l1 x18_1).f2), .string (⟨#[]⟩ : ByteArray)]) ?_ 3 _ rfl; (with_reducible repeat (first | refine blk_drewN ?_ _ | refine blk_drew ?_ | refine blk_alloc ?_ _)); refine blk_put (cs := #[.int .i64 ((rd_T28 l1 x18_1).f0), .int .i64 ((rd_T28 l1 x18_1).f1), .float .f64 (0 : Nat), .string (⟨#[]⟩ : ByteArray)]) ?_ 2 _ rfl; (with_reducible repeat (first | refine blk_drewN ?_ _ | refine blk_drew ?_ | refine blk_alloc ?_ _)); refine blk_put (cs := #[.int .i64 ((rd_T28 l1 x18_1).f0), .int .i64 0, .float .f64 (0 : Nat), .string (⟨#[]⟩ : ByteArray)]) ?_ 1 _ rfl; (with_reducible repeat (first | refine blk_drewN ?_ _ | refine blk_drew ?_ | refine blk_alloc ?_ _)); refine blk_put (cs := #[.int .i64 0, .int .i64 0, .float .f64 (0 : Nat), .string (⟨#[]⟩ : ByteArray)]) ?_ 0 _ rfl; (with_reducible repeat (first | refine blk_drewN ?_ _ | refine blk_drew ?_ | refine blk_alloc ?_ _)); exact BK529.out) hb); have n3_ := Aside0.mk (below_step bel0 hb); clear BK525; clear BK526; clear BK529; clear HB; have BK525 := n0_; have BK526 := n1_; have BK529 := n2_; have HB := n3_; clear n0_ n1_ n2_ n3_; (try clear hb); (try clear hb2); (try clear hk); (try clear hi); obtain ⟨hcz35_0, hcz35_1, hcz35_2, hcz35_3⟩ := cells_4 BK529.out; obtain ⟨hfz35_0, hfz35_1, hfz35_2, hfz35_3⟩ := froz_4 BK529.out; obtain ⟨hcz36_0, hcz36_1, hcz36_2, hcz36_3, hcz36_4, hcz36_5, hcz36_6, hcz36_7, hcz36_8, hcz36_9⟩ := cells_10 BK526.out; obtain ⟨hfz36_0, hfz36_1, hfz36_2, hfz36_3, hfz36_4, hfz36_5, hfz36_6, hfz36_7, hfz36_8, hfz36_9⟩ := froz_10 BK526.out) | ((with_reducible refine gate_callee (f := 60) rfl ?_); refine goesQ 35 Try.func60 #[.agg #[.int .i64 a2_0, .int .i64 a2_1, .int .i64 a2_2, .float .f64 a2_3, .string a2_4, .int .i64 a2_5, .int .i64 a2_6, .float .f64 a2_7, .string a2_8, .slice A2_9 l2_9.length c2_9]] ?_; (with_reducible refine (zone_none.calls a2_0 a2_1 a2_2 a2_3 a2_4 a2_5 a2_6 a2_7 a2_8 _ _ l2_9 t531 _ ?side1 ?side2 A26.out).mono ?_); (case side1 => repeat (first | exact (Kd.C_below HR2_9.out HB.out) | (with_reducible refine Kd.C_alloc ?_ _) | (with_reducible refine Kd.C_drewN ?_ _) | (with_reducible refine Kd.C_drew ?_))); (case side2 => exact HC2_9.out); rintro e w37 ⟨rfl, hb⟩; refine ⟨_, rfl, ?_⟩; have n0_ := blkS BK525 hb; have n1_ := blkS BK526 hb; have n2_ := blkS BK529 hb; have n3_ := Aside0.mk (below_step bel0 hb); clear BK525; clear BK526; clear BK529; clear HB; have BK525 := n0_; have BK526 := n1_; have BK529 := n2_; have HB := n3_; clear n0_ n1_ n2_ n3_; (try clear hb); (try clear hb2); (try clear hk); (try clear hi)))
                  (try simp only [Act.put, List.setIfInBounds_toArray, List.set_cons_zero, List.set_cons_succ])
                  go_cut [33] (fun v33 wc => ∃ (kq : Nat) (x33_26 : Bool), v33 = .bool x33_26 ∧ Aside0 (zone_Sound.j1 kq x7_1 l1 (l1.length : Int) x18_1 x33_26 a0_0 a0_1 a0_2 a2_0 a2_1 a2_2 a2_3 a2_4 a2_5 a2_6 a2_7 a2_8 l2_9 ((rd_T28 l1 x18_1).f0) ((rd_T28 l1 x18_1).f1) ((rd_T28 l1 x18_1).f2) ((rd_T28 l1 x18_1).f3) = some r) ∧ Aside0 (kq ≤ k1) ∧ Aside0 (wc.heap[gb525]? = some (.cells #[.string a0_0, .int .i64 a0_1, .bool a0_2] 23 (0, 0))) ∧ Aside0 (wc.heap[gb526]? = some (.cells #[.int .i64 a2_0, .int .i64 a2_1, .int .i64 a2_2, .float .f64 a2_3, .string a2_4, .int .i64 a2_5, .int .i64 a2_6, .float .f64 a2_7, .string a2_8, (.slice A2_9 l2_9.length c2_9)] 31 (0, 0))) ∧ Aside0 (wc.heap[gb529]? = some (.cells #[.int .i64 ((rd_T28 l1 x18_1).f0), .int .i64 ((rd_T28 l1 x18_1).f1), .float .f64 ((rd_T28 l1 x18_1).f2), .string ((rd_T28 l1 x18_1).f3)] 28 (0, 0))) ∧ Aside0 (Below w.heap.size w wc))
                  case first =>
                    have H := HC27.out
                    clear HC27
                    by_cases c38 : t531 = true
                    · subst c38
                      rw [if_pos rfl] at H
                      have H' := Aside0.mk H
                      clear H
                      go_wp2
                      go_meet
                      case rel => exact ⟨_, (true), (by first | rfl | (simp; done) | (simp [*]; done)), H', ⟨by have := HK1.out; first | omega | exact Nat.le_refl _⟩, ⟨by (with_reducible repeat (first | refine blk_drewN ?_ _ | refine blk_drew ?_ | refine blk_alloc ?_ _)); exact BK525.out⟩, ⟨by (with_reducible repeat (first | refine blk_drewN ?_ _ | refine blk_drew ?_ | refine blk_alloc ?_ _)); exact BK526.out⟩, ⟨by (with_reducible repeat (first | refine blk_drewN ?_ _ | refine blk_drew ?_ | refine blk_alloc ?_ _)); exact BK529.out⟩, ⟨bel0⟩⟩
                    · replace c38 := Bool.eq_false_iff.mpr c38
                      subst c38
                      rw [if_neg (show ¬ (false = true) by decide)] at H
                      replace H := Option.bind_eq_some_iff.mp H
                      obtain ⟨t532, A390, H⟩ := H
                      (try dsimp only at H)
                      have A39 := Aside0.mk A390
                      clear A390
                      by_cases c40 : t532 < 0
                      · rw [if_pos c40] at H
                        have c40b0 : decide (t532 < 0) = true := decide_eq_true c40
                        clear c40
                        (first | rw [c40b0] | (simp only [i64_w, i32_w]; rw [c40b0]) | skip)
                        have H' := Aside0.mk H
                        clear H
                        have hnb41 := NB529_525.out
                        have hnc41 := NB525_529.out
                        have hnb42 := NB529_526.out
                        have hnc42 := NB526_529.out
                        obtain ⟨hcz43_0, hcz43_1, hcz43_2, hcz43_3⟩ := cells_4 BK529.out
                        obtain ⟨hfz43_0, hfz43_1, hfz43_2, hfz43_3⟩ := froz_4 BK529.out
                        have hnb44 := NB526_525.out
                        have hnc44 := NB525_526.out
                        obtain ⟨hcz45_0, hcz45_1, hcz45_2, hcz45_3, hcz45_4, hcz45_5, hcz45_6, hcz45_7, hcz45_8, hcz45_9⟩ := cells_10 BK526.out
                        obtain ⟨hfz45_0, hfz45_1, hfz45_2, hfz45_3, hfz45_4, hfz45_5, hfz45_6, hfz45_7, hfz45_8, hfz45_9⟩ := froz_10 BK526.out
                        go_wp2_with (first | ((with_reducible refine gate_callee (f := 38) rfl ?_); refine goesQ 39 Try.func38 #[.agg #[.int .i64 ((rd_T28 l1 x18_1).f0), .int .i64 ((rd_T28 l1 x18_1).f1), .float .f64 ((rd_T28 l1 x18_1).f2), .string ((rd_T28 l1 x18_1).f3)], .agg #[.int .i64 a2_1, .int .i64 a2_2, .float .f64 a2_3, .string a2_4]] ?_; (with_reducible refine (value_Compare.calls k1 ((rd_T28 l1 x18_1).f0) ((rd_T28 l1 x18_1).f1) ((rd_T28 l1 x18_1).f2) ((rd_T28 l1 x18_1).f3) a2_1 a2_2 a2_3 a2_4 t532 _ A39.out).mono ?_); rintro e w46 ⟨rfl, hb⟩; refine ⟨_, rfl, ?_⟩; have n0_ := blkS BK525 hb; have n1_ := blkS BK526 hb; have n2_ := blkS BK529 hb; have n3_ := Aside0.mk (below_step bel0 hb); clear BK525; clear BK526; clear BK529; clear HB; have BK525 := n0_; have BK526 := n1_; have BK529 := n2_; have HB := n3_; clear n0_ n1_ n2_ n3_; (try clear hb); (try clear hb2); (try clear hk); (try clear hi)))
                        go_meet
                        case rel => exact ⟨_, (decide (t532 < 0)), (by first | rfl | (simp; done) | (simp [*]; done)), H', ⟨by have := HK1.out; first | omega | exact Nat.le_refl _⟩, ⟨by (with_reducible repeat (first | refine blk_drewN ?_ _ | refine blk_drew ?_ | refine blk_alloc ?_ _)); exact BK525.out⟩, ⟨by (with_reducible repeat (first | refine blk_drewN ?_ _ | refine blk_drew ?_ | refine blk_alloc ?_ _)); exact BK526.out⟩, ⟨by (with_reducible repeat (first | refine blk_drewN ?_ _ | refine blk_drew ?_ | refine blk_alloc ?_ _)); exact BK529.out⟩, ⟨bel0⟩⟩
                      · rw [if_neg c40] at H
                        have c40b0 : decide (t532 < 0) = false := decide_eq_false c40
                        clear c40
                        (first | rw [c40b0] | (simp only [i64_w, i32_w]; rw [c40b0]) | skip)
                        replace H := Option.bind_eq_some_iff.mp H
                        obtain ⟨t533, A470, H⟩ := H
                        (try dsimp only at H)
                        have A47 := Aside0.mk A470
                        clear A470
                        have H' := Aside0.mk H
                        clear H
                        have hnb48 := NB529_525.out
                        have hnc48 := NB525_529.out
                        have hnb49 := NB529_526.out
                        have hnc49 := NB526_529.out
                        obtain ⟨hcz50_0, hcz50_1, hcz50_2, hcz50_3⟩ := cells_4 BK529.out
                        obtain ⟨hfz50_0, hfz50_1, hfz50_2, hfz50_3⟩ := froz_4 BK529.out
                        have hnb51 := NB526_525.out
                        have hnc51 := NB525_526.out
                        obtain ⟨hcz52_0, hcz52_1, hcz52_2, hcz52_3, hcz52_4, hcz52_5, hcz52_6, hcz52_7, hcz52_8, hcz52_9⟩ := cells_10 BK526.out
                        obtain ⟨hfz52_0, hfz52_1, hfz52_2, hfz52_3, hfz52_4, hfz52_5, hfz52_6, hfz52_7, hfz52_8, hfz52_9⟩ := froz_10 BK526.out
                        go_wp2_with (first | ((with_reducible refine gate_callee (f := 38) rfl ?_); refine goesQ 39 Try.func38 #[.agg #[.int .i64 ((rd_T28 l1 x18_1).f0), .int .i64 ((rd_T28 l1 x18_1).f1), .float .f64 ((rd_T28 l1 x18_1).f2), .string ((rd_T28 l1 x18_1).f3)], .agg #[.int .i64 a2_1, .int .i64 a2_2, .float .f64 a2_3, .string a2_4]] ?_; (with_reducible refine (value_Compare.calls k1 ((rd_T28 l1 x18_1).f0) ((rd_T28 l1 x18_1).f1) ((rd_T28 l1 x18_1).f2) ((rd_T28 l1 x18_1).f3) a2_1 a2_2 a2_3 a2_4 t532 _ A39.out).mono ?_); rintro e w53 ⟨rfl, hb⟩; refine ⟨_, rfl, ?_⟩; have n0_ := blkS BK525 hb; have n1_ := blkS BK526 hb; have n2_ := blkS BK529 hb; have n3_ := Aside0.mk (below_step bel0 hb); clear BK525; clear BK526; clear BK529; clear HB; have BK525 := n0_; have BK526 := n1_; have BK529 := n2_; have HB := n3_; clear n0_ n1_ n2_ n3_; (try clear hb); (try clear hb2); (try clear hk); (try clear hi); obtain ⟨hcz54_0, hcz54_1, hcz54_2, hcz54_3⟩ := cells_4 BK529.out; obtain ⟨hfz54_0, hfz54_1, hfz54_2, hfz54_3⟩ := froz_4 BK529.out; obtain ⟨hcz55_0, hcz55_1, hcz55_2, hcz55_3, hcz55_4, hcz55_5, hcz55_6, hcz55_7, hcz55_8, hcz55_9⟩ := cells_10 BK526.out; obtain ⟨hfz55_0, hfz55_1, hfz55_2, hfz55_3, hfz55_4, hfz55_5, hfz55_6, hfz55_7, hfz55_8, hfz55_9⟩ := froz_10 BK526.out) | ((with_reducible refine gate_callee (f := 38) rfl ?_); refine goesQ 44 Try.func38 #[.agg #[.int .i64 ((rd_T28 l1 x18_1).f0), .int .i64 ((rd_T28 l1 x18_1).f1), .float .f64 ((rd_T28 l1 x18_1).f2), .string ((rd_T28 l1 x18_1).f3)], .agg #[.int .i64 a2_5, .int .i64 a2_6, .float .f64 a2_7, .string a2_8]] ?_; (with_reducible refine (value_Compare.calls k1 ((rd_T28 l1 x18_1).f0) ((rd_T28 l1 x18_1).f1) ((rd_T28 l1 x18_1).f2) ((rd_T28 l1 x18_1).f3) a2_5 a2_6 a2_7 a2_8 t533 _ A47.out).mono ?_); rintro e w56 ⟨rfl, hb⟩; refine ⟨_, rfl, ?_⟩; have n0_ := blkS BK525 hb; have n1_ := blkS BK526 hb; have n2_ := blkS BK529 hb; have n3_ := Aside0.mk (below_step bel0 hb); clear BK525; clear BK526; clear BK529; clear HB; have BK525 := n0_; have BK526 := n1_; have BK529 := n2_; have HB := n3_; clear n0_ n1_ n2_ n3_; (try clear hb); (try clear hb2); (try clear hk); (try clear hi)))
                        go_meet
                        case rel => exact ⟨_, (decide (t533 > 0)), (by first | rfl | (simp; done) | (simp [*]; done)), H', ⟨by have := HK1.out; first | omega | exact Nat.le_refl _⟩, ⟨by (with_reducible repeat (first | refine blk_drewN ?_ _ | refine blk_drew ?_ | refine blk_alloc ?_ _)); exact BK525.out⟩, ⟨by (with_reducible repeat (first | refine blk_drewN ?_ _ | refine blk_drew ?_ | refine blk_alloc ?_ _)); exact BK526.out⟩, ⟨by (with_reducible repeat (first | refine blk_drewN ?_ _ | refine blk_drew ?_ | refine blk_alloc ?_ _)); exact BK529.out⟩, ⟨bel0⟩⟩
                  case rest =>
                    clear HC27
                    try clear c1
                    try clear c2
                    try clear p2
                    try clear c3
                    try clear c4
                    try clear c5
                    try clear p5
                    try clear q5
                    try clear hx5
                    try clear c6
                    try clear p6
                    try clear c8
                    try clear c12
                    try clear c12b0
                    try clear c13
                    try clear c13b0
                    try clear c14
                    try clear c14b0
                    try clear c16
                    try clear c17
                    try clear c17b0
                    try clear c17b1
                    try clear c19
                    try clear c20
                    try clear c22
                    try clear c24
                    try clear c29
                    try clear c30
                    try clear c32
                    try clear c38
                    try clear c40
                    try clear c40b0
                    try clear c41
                    try clear c42
                    try clear c44
                    try clear c48
                    try clear c49
                    try clear c51
                    try clear p52
                    try clear q52
                    try clear hx52
                    try clear hcz10_0
                    try clear hcz10_1
                    try clear hcz10_2
                    try clear hcz10_3
                    try clear hcz10_4
                    try clear hcz10_5
                    try clear hcz10_6
                    try clear hcz10_7
                    try clear hcz10_8
                    try clear hcz10_9
                    try clear hcz21_0
                    try clear hcz21_1
                    try clear hcz21_2
                    try clear hcz21_3
                    try clear hcz23_0
                    try clear hcz23_1
                    try clear hcz23_2
                    try clear hcz25_0
                    try clear hcz25_1
                    try clear hcz25_2
                    try clear hcz25_3
                    try clear hcz31_0
                    try clear hcz31_1
                    try clear hcz31_2
                    try clear hcz31_3
                    try clear hcz33_0
                    try clear hcz33_1
                    try clear hcz33_2
                    try clear hcz35_0
                    try clear hcz35_1
                    try clear hcz35_2
                    try clear hcz35_3
                    try clear hcz36_0
                    try clear hcz36_1
                    try clear hcz36_2
                    try clear hcz36_3
                    try clear hcz36_4
                    try clear hcz36_5
                    try clear hcz36_6
                    try clear hcz36_7
                    try clear hcz36_8
                    try clear hcz36_9
                    try clear hcz43_0
                    try clear hcz43_1
                    try clear hcz43_2
                    try clear hcz43_3
                    try clear hcz45_0
                    try clear hcz45_1
                    try clear hcz45_2
                    try clear hcz45_3
                    try clear hcz45_4
                    try clear hcz45_5
                    try clear hcz45_6
                    try clear hcz45_7
                    try clear hcz45_8
                    try clear hcz45_9
                    try clear hcz50_0
                    try clear hcz50_1
                    try clear hcz50_2
                    try clear hcz50_3
                    try clear hcz52_0
                    try clear hcz52_1
                    try clear hcz52_2
                    try clear hcz52_3
                    try clear hcz52_4
                    try clear hcz52_5
                    try clear hcz52_6
                    try clear hcz52_7
                    try clear hcz52_8
                    try clear hcz52_9
                    try clear hcz54_0
                    try clear hcz54_1
                    try clear hcz54_2
                    try clear hcz54_3
                    try clear hcz55_0
                    try clear hcz55_1
                    try clear hcz55_2
                    try clear hcz55_3
                    try clear hcz55_4
                    try clear hcz55_5
                    try clear hcz55_6
                    try clear hcz55_7
                    try clear hcz55_8
                    try clear hcz55_9
                    try clear hcz9_0
                    try clear hcz9_1
                    try clear hcz9_2
                    try clear hfz10_0
                    try clear hfz10_1
                    try clear hfz10_2
                    try clear hfz10_3
                    try clear hfz10_4
                    try clear hfz10_5
                    try clear hfz10_6
                    try clear hfz10_7
                    try clear hfz10_8
                    try clear hfz10_9
                    try clear hfz21_0
                    try clear hfz21_1
                    try clear hfz21_2
                    try clear hfz21_3
                    try clear hfz23_0
                    try clear hfz23_1
                    try clear hfz23_2
                    try clear hfz25_0
                    try clear hfz25_1
                    try clear hfz25_2
                    try clear hfz25_3
                    try clear hfz31_0
                    try clear hfz31_1
                    try clear hfz31_2
                    try clear hfz31_3
                    try clear hfz33_0
                    try clear hfz33_1
                    try clear hfz33_2
                    try clear hfz35_0
                    try clear hfz35_1
                    try clear hfz35_2
                    try clear hfz35_3
                    try clear hfz36_0
                    try clear hfz36_1
                    try clear hfz36_2
                    try clear hfz36_3
                    try clear hfz36_4
                    try clear hfz36_5
                    try clear hfz36_6
                    try clear hfz36_7
                    try clear hfz36_8
                    try clear hfz36_9
                    try clear hfz43_0
                    try clear hfz43_1
                    try clear hfz43_2
                    try clear hfz43_3
                    try clear hfz45_0
                    try clear hfz45_1
                    try clear hfz45_2
                    try clear hfz45_3
                    try clear hfz45_4
                    try clear hfz45_5
                    try clear hfz45_6
                    try clear hfz45_7
                    try clear hfz45_8
                    try clear hfz45_9
                    try clear hfz50_0
                    try clear hfz50_1
                    try clear hfz50_2
                    try clear hfz50_3
                    try clear hfz52_0
                    try clear hfz52_1
                    try clear hfz52_2
                    try clear hfz52_3
                    try clear hfz52_4
                    try clear hfz52_5
                    try clear hfz52_6
                    try clear hfz52_7
                    try clear hfz52_8
                    try clear hfz52_9
                    try clear hfz54_0
                    try clear hfz54_1
                    try clear hfz54_2
                    try clear hfz54_3
                    try clear hfz55_0
                    try clear hfz55_1
                    try clear hfz55_2
                    try clear hfz55_3
                    try clear hfz55_4
                    try clear hfz55_5
                    try clear hfz55_6
                    try clear hfz55_7
                    try clear hfz55_8
                    try clear hfz55_9
                    try clear hfz9_0
                    try clear hfz9_1
                    try clear hfz9_2
                    try clear hx528_0
                    try clear hx528_1
                    try clear hx528_2
                    try clear hx528_3
                    try clear p2
                    try clear p528
                    try clear q528
                    obtain ⟨kq, x33_26, rfl, HA, HJ26, BK525, BK526, BK529, HB⟩ := hcut
                    cases kq with
                    | zero => exact absurd HA.out (by simp [zone_Sound.j1])
                    | succ kj26 =>
                      have H := HA.out
                      clear HA
                      simp only [zone_Sound.j1] at H
                      by_cases c57 : x33_26 = true
                      · subst c57
                        rw [if_pos rfl] at H
                        obtain rfl := Option.some.inj H
                        go_wp2
                        go_ret
                        exact ⟨by first | rfl | (simp [errW_none, errW_some] <;> rfl) | (simp [*, errW_none, errW_some] <;> rfl), bel0⟩
                      · replace c57 := Bool.eq_false_iff.mpr c57
                        subst c57
                        rw [if_neg (show ¬ (false = true) by decide)] at H
                        by_cases c58 : (l2_9.length : Int) > 0
                        · rw [if_pos c58] at H
                          have c58b0 : decide (0 < (l2_9.length : Int)) = true := decide_eq_true c58
                          have c58b1 : decide (0 < l2_9.length) = true := decide_eq_true (by omega)
                          clear c58
                          replace H := Option.bind_eq_some_iff.mp H
                          obtain ⟨t534, A590, H⟩ := H
                          (try dsimp only at H)
                          have A59 := Aside0.mk A590
                          clear A590
                          by_cases c60 : t534 = true
                          · subst c60
                            rw [if_pos rfl] at H
                            have H' := Aside0.mk H
                            clear H
                            have hnb61 := NB526_525.out
                            have hnc61 := NB525_526.out
                            have hnb62 := NB526_529.out
                            have hnc62 := NB529_526.out
                            obtain ⟨hcz63_0, hcz63_1, hcz63_2, hcz63_3, hcz63_4, hcz63_5, hcz63_6, hcz63_7, hcz63_8, hcz63_9⟩ := cells_10 BK526.out
                            obtain ⟨hfz63_0, hfz63_1, hfz63_2, hfz63_3, hfz63_4, hfz63_5, hfz63_6, hfz63_7, hfz63_8, hfz63_9⟩ := froz_10 BK526.out
                            have hnb64 := NB529_525.out
                            have hnc64 := NB525_529.out
                            obtain ⟨hcz65_0, hcz65_1, hcz65_2, hcz65_3⟩ := cells_4 BK529.out
                            obtain ⟨hfz65_0, hfz65_1, hfz65_2, hfz65_3⟩ := froz_4 BK529.out
                            go_wp2_with (first | (go_at_call 65; (with_reducible refine (bloom_Has.calls kj26 _ _ l2_9 ((rd_T28 l1 x18_1).f0) ((rd_T28 l1 x18_1).f1) ((rd_T28 l1 x18_1).f2) ((rd_T28 l1 x18_1).f3) true _ ?side1 ?side2 A59.out).mono ?_); (case side1 => repeat (first | exact (Kd.C_below HR2_9.out HB.out) | (with_reducible refine Kd.C_alloc ?_ _) | (with_reducible refine Kd.C_drewN ?_ _) | (with_reducible refine Kd.C_drew ?_))); (case side2 => exact HC2_9.out); rintro e w66 ⟨rfl, hb⟩; (try clear A59); have n0_ := blkS BK525 hb; have n1_ := blkS BK526 hb; have n2_ := blkS BK529 hb; have n3_ := Aside0.mk (below_step bel0 hb); clear BK525; clear BK526; clear BK529; clear HB; have BK525 := n0_; have BK526 := n1_; have BK529 := n2_; have HB := n3_; clear n0_ n1_ n2_ n3_; (try clear hb); (try clear hb2); (try clear hk); (try clear hi)))
                            go_roundg kj26
                            case measure => have := HK1.out; have := HJ26.out; omega
                            case rel => exact ⟨(x7_1), (wrap64 (x18_1 + 1)), (by first | rfl | (simp; done) | (simp [*]; done)), (by first | rfl | (simp; done) | (simp [*]; done)), H', ⟨by have := HK1.out; have := HJ26.out; omega⟩, ⟨by (with_reducible repeat (first | refine blk_drewN ?_ _ | refine blk_drew ?_ | refine blk_alloc ?_ _)); exact BK525.out⟩, ⟨by (with_reducible repeat (first | refine blk_drewN ?_ _ | refine blk_drew ?_ | refine blk_alloc ?_ _)); exact BK526.out⟩, ⟨bel0⟩⟩
                          · replace c60 := Bool.eq_false_iff.mpr c60
                            subst c60
                            rw [if_neg (show ¬ (false = true) by decide)] at H
                            obtain rfl := Option.some.inj H
                            have hnb67 := NB526_525.out
                            have hnc67 := NB525_526.out
                            have hnb68 := NB526_529.out
                            have hnc68 := NB529_526.out
                            obtain ⟨hcz69_0, hcz69_1, hcz69_2, hcz69_3, hcz69_4, hcz69_5, hcz69_6, hcz69_7, hcz69_8, hcz69_9⟩ := cells_10 BK526.out
                            obtain ⟨hfz69_0, hfz69_1, hfz69_2, hfz69_3, hfz69_4, hfz69_5, hfz69_6, hfz69_7, hfz69_8, hfz69_9⟩ := froz_10 BK526.out
                            have hnb70 := NB529_525.out
                            have hnc70 := NB525_529.out
                            obtain ⟨hcz71_0, hcz71_1, hcz71_2, hcz71_3⟩ := cells_4 BK529.out
                            obtain ⟨hfz71_0, hfz71_1, hfz71_2, hfz71_3⟩ := froz_4 BK529.out
                            go_wp2_with (first | (go_at_call 65; (with_reducible refine (bloom_Has.calls kj26 _ _ l2_9 ((rd_T28 l1 x18_1).f0) ((rd_T28 l1 x18_1).f1) ((rd_T28 l1 x18_1).f2) ((rd_T28 l1 x18_1).f3) false _ ?side1 ?side2 A59.out).mono ?_); (case side1 => repeat (first | exact (Kd.C_below HR2_9.out HB.out) | (with_reducible refine Kd.C_alloc ?_ _) | (with_reducible refine Kd.C_drewN ?_ _) | (with_reducible refine Kd.C_drew ?_))); (case side2 => exact HC2_9.out); rintro e w72 ⟨rfl, hb⟩; (try clear A59); have n0_ := blkS BK525 hb; have n1_ := blkS BK526 hb; have n2_ := blkS BK529 hb; have n3_ := Aside0.mk (below_step bel0 hb); clear BK525; clear BK526; clear BK529; clear HB; have BK525 := n0_; have BK526 := n1_; have BK529 := n2_; have HB := n3_; clear n0_ n1_ n2_ n3_; (try clear hb); (try clear hb2); (try clear hk); (try clear hi)))
                            go_ret
                            exact ⟨by first | rfl | (simp [errW_none, errW_some] <;> rfl) | (simp [*, errW_none, errW_some] <;> rfl), bel0⟩
                        · rw [if_neg c58] at H
                          have c58b0 : decide (0 < (l2_9.length : Int)) = false := decide_eq_false c58
                          have c58b1 : decide (0 < l2_9.length) = false := decide_eq_false (by omega)
                          clear c58
                          have H' := Aside0.mk H
                          clear H
                          have hnb73 := NB526_525.out
                          have hnc73 := NB525_526.out
                          have hnb74 := NB526_529.out
                          have hnc74 := NB529_526.out
                          obtain ⟨hcz75_0, hcz75_1, hcz75_2, hcz75_3, hcz75_4, hcz75_5, hcz75_6, hcz75_7, hcz75_8, hcz75_9⟩ := cells_10 BK526.out
                          obtain ⟨hfz75_0, hfz75_1, hfz75_2, hfz75_3, hfz75_4, hfz75_5, hfz75_6, hfz75_7, hfz75_8, hfz75_9⟩ := froz_10 BK526.out
                          go_wp2
                          go_roundg kj26
                          case measure => have := HK1.out; have := HJ26.out; omega
                          case rel => exact ⟨(x7_1), (wrap64 (x18_1 + 1)), (by first | rfl | (simp; done) | (simp [*]; done)), (by first | rfl | (simp; done) | (simp [*]; done)), H', ⟨by have := HK1.out; have := HJ26.out; omega⟩, ⟨by (with_reducible repeat (first | refine blk_drewN ?_ _ | refine blk_drew ?_ | refine blk_alloc ?_ _)); exact BK525.out⟩, ⟨by (with_reducible repeat (first | refine blk_drewN ?_ _ | refine blk_drew ?_ | refine blk_alloc ?_ _)); exact BK526.out⟩, ⟨bel0⟩⟩
              · replace c16 := Bool.eq_false_iff.mpr c16
                subst c16
                rw [if_neg (show ¬ (false = true) by decide)] at H
                obtain rfl := Option.some.inj H
                have p528 : 0 ≤ (x18_1 : Int) := of_decide_eq_true (by first | (with_reducible assumption) | assumption)
                have q528 : x18_1 < (l1.length : Int) := of_decide_eq_true (by first | (with_reducible assumption) | assumption)
                obtain ⟨ad528, e528, hx528_0, hx528_1, hx528_2, hx528_3⟩ := at_T28 HR1.out x18_1 p528 q528
                cases e528
                replace hx528_0 := (HB.out.cell (World.block_lt_of_cell? w _ hx528_0)).trans hx528_0
                replace hx528_1 := (HB.out.cell (World.block_lt_of_cell? w _ hx528_1)).trans hx528_1
                replace hx528_2 := (HB.out.cell (World.block_lt_of_cell? w _ hx528_2)).trans hx528_2
                replace hx528_3 := (HB.out.cell (World.block_lt_of_cell? w _ hx528_3)).trans hx528_3
                replace p528 := eq_true p528
                replace q528 := eq_true q528
                go_wp2_with (first | ((with_reducible refine gate_dst (N := 9) rfl ?_); refine box_event ?hg (N := 9) ?hd (cs := #[.int .i64 0, .int .i64 0, .float .f64 (0 : Nat), .string (⟨#[]⟩ : ByteArray)]) (t := 28) ?hr ?_; (case hd => rfl); (case hg => rfl); (case hr => first | (go_simp; done) | (go_simp; rfl)); intro gb529 hg w76 hbox hb; have n0_ := blkS BK525 hb; have n1_ := blkS BK526 hb; have n2_ := Aside0.mk (below_step bel0 hb); have n3_ := Aside0.mk (hbox); have n4_ := Aside0.mk ((by rw [hg]; exact (below_size bel0) : w.heap.size ≤ gb529)); have n5_ := Aside0.mk ((by rw [hg]; exact (below_size bel0) : w.heap.size ≤ gb529)); have n6_ := Aside0.mk ((by rw [hg]; exact Nat.ne_of_lt (blk_lt (g := gb525) (o := .cells #[.string a0_0, .int .i64 a0_1, .bool a0_2] 23 (0, 0)) (blk0 BK525)) : gb525 ≠ gb529)); have n7_ := Aside0.mk ((by rw [hg]; exact Nat.ne_of_gt (blk_lt (g := gb525) (o := .cells #[.string a0_0, .int .i64 a0_1, .bool a0_2] 23 (0, 0)) (blk0 BK525)) : gb529 ≠ gb525)); have n8_ := Aside0.mk ((by rw [hg]; exact Nat.ne_of_lt (blk_lt (g := gb526) (o := .cells #[.int .i64 a2_0, .int .i64 a2_1, .int .i64 a2_2, .float .f64 a2_3, .string a2_4, .int .i64 a2_5, .int .i64 a2_6, .float .f64 a2_7, .string a2_8, .slice A2_9 l2_9.length c2_9] 31 (0, 0)) (blk0 BK526)) : gb526 ≠ gb529)); have n9_ := Aside0.mk ((by rw [hg]; exact Nat.ne_of_gt (blk_lt (g := gb526) (o := .cells #[.int .i64 a2_0, .int .i64 a2_1, .int .i64 a2_2, .float .f64 a2_3, .string a2_4, .int .i64 a2_5, .int .i64 a2_6, .float .f64 a2_7, .string a2_8, .slice A2_9 l2_9.length c2_9] 31 (0, 0)) (blk0 BK526)) : gb529 ≠ gb526)); clear BK525; clear BK526; clear HB; have BK525 := n0_; have BK526 := n1_; have HB := n2_; have BK529 := n3_; have GW529 := n4_; have GE529 := n5_; have NB525_529 := n6_; have NB529_525 := n7_; have NB526_529 := n8_; have NB529_526 := n9_; clear n0_ n1_ n2_ n3_ n4_ n5_ n6_ n7_ n8_ n9_; clear hb hbox hg; have hnb77 := NB529_525.out; have hnc77 := NB525_529.out; have hnb78 := NB529_526.out; have hnc78 := NB526_529.out; obtain ⟨hcz79_0, hcz79_1, hcz79_2, hcz79_3⟩ := cells_4 BK529.out; obtain ⟨hfz79_0, hfz79_1, hfz79_2, hfz79_3⟩ := froz_4 BK529.out; have hnb80 := NB525_526.out; have hnc80 := NB526_525.out; obtain ⟨hcz81_0, hcz81_1, hcz81_2⟩ := cells_3 BK525.out; obtain ⟨hfz81_0, hfz81_1, hfz81_2⟩ := froz_3 BK525.out) | ((with_reducible refine gate_callee (f := 49) rfl ?_); refine goesQ 25 Try.func49 #[.agg #[.string a0_0, .int .i64 a0_1, .bool a0_2], .agg #[.int .i64 ((rd_T28 l1 x18_1).f0), .int .i64 ((rd_T28 l1 x18_1).f1), .float .f64 ((rd_T28 l1 x18_1).f2), .string ((rd_T28 l1 x18_1).f3)]] ?_; (with_reducible refine (value_Fits.calls k1 a0_0 a0_1 a0_2 ((rd_T28 l1 x18_1).f0) ((rd_T28 l1 x18_1).f1) ((rd_T28 l1 x18_1).f2) ((rd_T28 l1 x18_1).f3) false _ A15.out).mono ?_); rintro e w82 ⟨rfl, hb⟩; refine ⟨_, rfl, ?_⟩; have n0_ := Aside0.mk (blk_below (g := gb525) (o := .cells #[.string a0_0, .int .i64 a0_1, .bool a0_2] 23 (0, 0)) (by (with_reducible repeat (first | refine blk_drewN ?_ _ | refine blk_drew ?_ | refine blk_alloc ?_ _)); refine blk_far ?_ NB525_529.out _; (with_reducible repeat (first | refine blk_drewN ?_ _ | refine blk_drew ?_ | refine blk_alloc ?_ _)); refine blk_far ?_ NB525_529.out _; (with_reducible repeat (first | refine blk_drewN ?_ _ | refine blk_drew ?_ | refine blk_alloc ?_ _)); refine blk_far ?_ NB525_529.out _; (with_reducible repeat (first | refine blk_drewN ?_ _ | refine blk_drew ?_ | refine blk_alloc ?_ _)); refine blk_far ?_ NB525_529.out _; (with_reducible repeat (first | refine blk_drewN ?_ _ | refine blk_drew ?_ | refine blk_alloc ?_ _)); exact BK525.out) hb); have n1_ := Aside0.mk (blk_below (g := gb526) (o := .cells #[.int .i64 a2_0, .int .i64 a2_1, .int .i64 a2_2, .float .f64 a2_3, .string a2_4, .int .i64 a2_5, .int .i64 a2_6, .float .f64 a2_7, .string a2_8, .slice A2_9 l2_9.length c2_9] 31 (0, 0)) (by (with_reducible repeat (first | refine blk_drewN ?_ _ | refine blk_drew ?_ | refine blk_alloc ?_ _)); refine blk_far ?_ NB526_529.out _; (with_reducible repeat (first | refine blk_drewN ?_ _ | refine blk_drew ?_ | refine blk_alloc ?_ _)); refine blk_far ?_ NB526_529.out _; (with_reducible repeat (first | refine blk_drewN ?_ _ | refine blk_drew ?_ | refine blk_alloc ?_ _)); refine blk_far ?_ NB526_529.out _; (with_reducible repeat (first | refine blk_drewN ?_ _ | refine blk_drew ?_ | refine blk_alloc ?_ _)); refine blk_far ?_ NB526_529.out _; (with_reducible repeat (first | refine blk_drewN ?_ _ | refine blk_drew ?_ | refine blk_alloc ?_ _)); exact BK526.out) hb); have n2_ := Aside0.mk (blk_below (g := gb529) (o := .cells #[.int .i64 ((rd_T28 l1 x18_1).f0), .int .i64 ((rd_T28 l1 x18_1).f1), .float .f64 ((rd_T28 l1 x18_1).f2), .string ((rd_T28 l1 x18_1).f3)] 28 (0, 0)) (by (with_reducible repeat (first | refine blk_drewN ?_ _ | refine blk_drew ?_ | refine blk_alloc ?_ _)); refine blk_put (cs := #[.int .i64 ((rd_T28 l1 x18_1).f0), .int .i64 ((rd_T28 l1 x18_1).f1), .float .f64 ((rd_T28 l1 x18_1).f2), .string (⟨#[]⟩ : ByteArray)]) ?_ 3 _ rfl; (with_reducible repeat (first | refine blk_drewN ?_ _ | refine blk_drew ?_ | refine blk_alloc ?_ _)); refine blk_put (cs := #[.int .i64 ((rd_T28 l1 x18_1).f0), .int .i64 ((rd_T28 l1 x18_1).f1), .float .f64 (0 : Nat), .string (⟨#[]⟩ : ByteArray)]) ?_ 2 _ rfl; (with_reducible repeat (first | refine blk_drewN ?_ _ | refine blk_drew ?_ | refine blk_alloc ?_ _)); refine blk_put (cs := #[.int .i64 ((rd_T28 l1 x18_1).f0), .int .i64 0, .float .f64 (0 : Nat), .string (⟨#[]⟩ : ByteArray)]) ?_ 1 _ rfl; (with_reducible repeat (first | refine blk_drewN ?_ _ | refine blk_drew ?_ | refine blk_alloc ?_ _)); refine blk_put (cs := #[.int .i64 0, .int .i64 0, .float .f64 (0 : Nat), .string (⟨#[]⟩ : ByteArray)]) ?_ 0 _ rfl; (with_reducible repeat (first | refine blk_drewN ?_ _ | refine blk_drew ?_ | refine blk_alloc ?_ _)); exact BK529.out) hb); have n3_ := Aside0.mk (below_step bel0 hb); clear BK525; clear BK526; clear BK529; clear HB; have BK525 := n0_; have BK526 := n1_; have BK529 := n2_; have HB := n3_; clear n0_ n1_ n2_ n3_; (try clear hb); (try clear hb2); (try clear hk); (try clear hi)))
                go_ret
                exact ⟨by first | rfl | (simp [errW_none, errW_some] <;> rfl) | (simp [*, errW_none, errW_some] <;> rfl), bel0⟩
            · rw [if_neg c14] at H
              exact absurd H (by simp)
          · rw [if_neg c13] at H
            exact absurd H (by simp)
        · rw [if_neg c12] at H
          have c12b0 : decide (x18_1 < (l1.length : Int)) = false := decide_eq_false c12
          clear c12
          obtain rfl := Option.some.inj H
          have hnb83 := NB526_525.out
          have hnc83 := NB525_526.out
          obtain ⟨hcz84_0, hcz84_1, hcz84_2, hcz84_3, hcz84_4, hcz84_5, hcz84_6, hcz84_7, hcz84_8, hcz84_9⟩ := cells_10 BK526.out
          obtain ⟨hfz84_0, hfz84_1, hfz84_2, hfz84_3, hfz84_4, hfz84_5, hfz84_6, hfz84_7, hfz84_8, hfz84_9⟩ := froz_10 BK526.out
          go_wp2
          go_ret
          exact ⟨by first | rfl | (simp [errW_none, errW_some] <;> rfl) | (simp [*, errW_none, errW_some] <;> rfl), bel0⟩
  · replace c5 := Bool.eq_false_iff.mpr c5
    subst c5
    rw [if_neg (show ¬ (false = true) by decide)] at H
    obtain rfl := Option.some.inj H
    go_enter Try.func24, Try.ntmps24
    go_wp2_with (first | ((with_reducible refine gate_dst (N := 3) rfl ?_); refine box_event ?hg (N := 3) ?hd (cs := #[.string a0_0, .int .i64 a0_1, .bool a0_2]) (t := 23) ?hr ?_; (case hd => rfl); (case hg => rfl); (case hr => first | (go_simp; done) | (go_simp; rfl)); intro gb525 hg w85 hbox hb; have n0_ := Aside0.mk (below_step bel0 hb); have n1_ := Aside0.mk (hbox); have n2_ := Aside0.mk ((by rw [hg]; exact (below_size bel0) : w.heap.size ≤ gb525)); have n3_ := Aside0.mk ((by rw [hg]; exact (below_size bel0) : w.heap.size ≤ gb525)); clear HB; have HB := n0_; have BK525 := n1_; have GW525 := n2_; have GE525 := n3_; clear n0_ n1_ n2_ n3_; clear hb hbox hg) | ((with_reducible refine gate_dst (N := 5) rfl ?_); refine box_event ?hg (N := 5) ?hd (cs := #[.int .i64 a2_0, .int .i64 a2_1, .int .i64 a2_2, .float .f64 a2_3, .string a2_4, .int .i64 a2_5, .int .i64 a2_6, .float .f64 a2_7, .string a2_8, .slice A2_9 l2_9.length c2_9]) (t := 31) ?hr ?_; (case hd => rfl); (case hg => rfl); (case hr => first | (go_simp; done) | (go_simp; rfl)); intro gb526 hg w86 hbox hb; have n0_ := blkS BK525 hb; have n1_ := Aside0.mk (below_step bel0 hb); have n2_ := Aside0.mk (hbox); have n3_ := Aside0.mk ((by rw [hg]; exact (below_size bel0) : w.heap.size ≤ gb526)); have n4_ := Aside0.mk ((by rw [hg]; exact (below_size bel0) : w.heap.size ≤ gb526)); have n5_ := Aside0.mk ((by rw [hg]; exact Nat.ne_of_lt (blk_lt (g := gb525) (o := .cells #[.string a0_0, .int .i64 a0_1, .bool a0_2] 23 (0, 0)) (blk0 BK525)) : gb525 ≠ gb526)); have n6_ := Aside0.mk ((by rw [hg]; exact Nat.ne_of_gt (blk_lt (g := gb525) (o := .cells #[.string a0_0, .int .i64 a0_1, .bool a0_2] 23 (0, 0)) (blk0 BK525)) : gb526 ≠ gb525)); clear BK525; clear HB; have BK525 := n0_; have HB := n1_; have BK526 := n2_; have GW526 := n3_; have GE526 := n4_; have NB525_526 := n5_; have NB526_525 := n6_; clear n0_ n1_ n2_ n3_ n4_ n5_ n6_; clear hb hbox hg; have hnb87 := NB525_526.out; have hnc87 := NB526_525.out; obtain ⟨hcz88_0, hcz88_1, hcz88_2⟩ := cells_3 BK525.out; obtain ⟨hfz88_0, hfz88_1, hfz88_2⟩ := froz_3 BK525.out; obtain ⟨hcz89_0, hcz89_1, hcz89_2, hcz89_3, hcz89_4, hcz89_5, hcz89_6, hcz89_7, hcz89_8, hcz89_9⟩ := cells_10 BK526.out; obtain ⟨hfz89_0, hfz89_1, hfz89_2, hfz89_3, hfz89_4, hfz89_5, hfz89_6, hfz89_7, hfz89_8, hfz89_9⟩ := froz_10 BK526.out) | ((with_reducible refine gate_callee (f := 20) rfl ?_); refine goesQ 14 Try.func20 #[.agg #[.string a0_0, .int .i64 a0_1, .bool a0_2], .int .i64 (l1.length : Int), .agg #[.int .i64 a2_0, .int .i64 a2_1, .int .i64 a2_2, .float .f64 a2_3, .string a2_4, .int .i64 a2_5, .int .i64 a2_6, .float .f64 a2_7, .string a2_8, .slice A2_9 l2_9.length c2_9]] ?_; (with_reducible refine (zone_May.calls k a0_0 a0_1 a0_2 (l1.length : Int) a2_0 a2_1 a2_2 a2_3 a2_4 a2_5 a2_6 a2_7 a2_8 _ _ l2_9 false _ ?side1 ?side2 A4.out).mono ?_); (case side1 => repeat (first | exact (Kd.C_below HR2_9.out HB.out) | (with_reducible refine Kd.C_alloc ?_ _) | (with_reducible refine Kd.C_drewN ?_ _) | (with_reducible refine Kd.C_drew ?_))); (case side2 => exact HC2_9.out); rintro e w90 ⟨rfl, hb⟩; refine ⟨_, rfl, ?_⟩; have n0_ := blkS BK525 hb; have n1_ := blkS BK526 hb; have n2_ := Aside0.mk (below_step bel0 hb); clear BK525; clear BK526; clear HB; have BK525 := n0_; have BK526 := n1_; have HB := n2_; clear n0_ n1_ n2_; (try clear hb); (try clear hb2); (try clear hk); (try clear hi)))
    go_ret
    exact ⟨by first | rfl | (simp [errW_none, errW_some] <;> rfl) | (simp [*, errW_none, errW_some] <;> rfl), bel0⟩

end Go.Proofs.Ythiidgmemoineaa.Pa
