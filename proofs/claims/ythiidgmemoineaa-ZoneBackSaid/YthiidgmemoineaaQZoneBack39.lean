/- The texts of ZoneBack, merged: part 39. -/
import Derived.Test.YthiidgmemoineaaQZoneBack5
import Derived.Test.YthiidgmemoineaaQZoneBack16
import Derived.Test.YthiidgmemoineaaQZoneBack31
import Derived.Test.YthiidgmemoineaaQZoneBack35
import Derived.Test.YthiidgmemoineaaQZoneBack38
namespace Go.Proofs.Ythiidgmemoineaa.Pa
open Go.RowKit Go.Proofs.YthiidgmemoineaaW.PrintWords Go.Proofs.YthiidgmemoineaaW.PrintLast Go.Proofs.YthiidgmemoineaaW.PrintMore
attribute [local go_sem] max2_int min2_int max_two min_two max_three min_three max_four min_four
attribute [local go_sem] run_store_float cmp_feq cmp_fne cmp_flt cmp_fle cmp_fgt cmp_fge un_fneg equalIn_feq run_fop run_fint run_freal cmp_sgt ext_bits ext_frombits ext_cmpb
set_option linter.unusedVariables false
set_option linter.unusedSimpArgs false
def zone_Put.f (k : Nat) (a0_0 : ByteArray) (a0_1 : Int) (a0_2 : Bool) (a1_0 : Int) (a1_1 : Int) (a1_2 : Int) (a1_3 : Nat) (a1_4 : ByteArray) (a1_5 : Int) (a1_6 : Int) (a1_7 : Nat) (a1_8 : ByteArray) (l1_9 : List Int) : Option (List Int × Int) := (zone_typed.f a0_0 a0_1 a0_2).bind fun t482 => (if t482 = true then ((zone_may.f k a0_0 a0_1 a0_2 a1_0 a1_1 a1_2 a1_3 a1_4 a1_5 a1_6 a1_7 a1_8 l1_9).bind fun t483 => (if t483 = true then ((cursor_PutUvarint.f k ([] : List Int) (IntKind.u64.wrap (a1_0))).bind fun t484 => ((zone_none.f a1_0 a1_1 a1_2 a1_3 a1_4 a1_5 a1_6 a1_7 a1_8 l1_9).bind fun t487 => (if t487 = true then ((cursor_Put_uint8.f k t484 0).bind fun t488 => ((cursor_PutBlock.f k t488 l1_9).bind fun t491 => (some (t491, 0)))) else ((cursor_Put_uint8.f k t484 1).bind fun t494 => ((zone_put.f k t494 a1_1 a1_2 a1_3 a1_4).bind fun t497 => ((zone_put.f k t497 a1_5 a1_6 a1_7 a1_8).bind fun t500 => ((cursor_PutBlock.f k t500 l1_9).bind fun t503 => (some (t503, 0))))))))) else (some (([] : List Int), 140)))) else (some (([] : List Int), 150)))
theorem zone_Put.mono : ∀ a0 a1 a2 a3 a4 a5 a6 a7 a8 a9 a10 a11 a12 k, LeO (zone_Put.f k a0 a1 a2 a3 a4 a5 a6 a7 a8 a9 a10 a11 a12) (zone_Put.f (k + 1) a0 a1 a2 a3 a4 a5 a6 a7 a8 a9 a10 a11 a12) := by
 intro a0 a1 a2 a3 a4 a5 a6 a7 a8 a9 a10 a11 a12 k
 unfold zone_Put.f
 repeat' first
   | (with_reducible exact cursor_PutBlock.mono _ _ _)
   | (with_reducible exact cursor_PutUvarint.mono _ _ _)
   | (with_reducible exact cursor_Put_uint8.mono _ _ _)
   | (with_reducible exact zone_may.mono _ _ _ _ _ _ _ _ _ _ _ _ _ _)
   | (with_reducible exact zone_put.mono _ _ _ _ _ _)
   | (with_reducible exact LeO.refl _)
   | (with_reducible exact LeO.none _)
   | (with_reducible refine LeO.ite ?_ ?_)
   | (with_reducible refine LeO.bind ?_ (fun _ => ?_))
   | exact cursor_PutBlock.mono _ _ _
   | exact cursor_PutUvarint.mono _ _ _
   | exact cursor_Put_uint8.mono _ _ _
   | exact zone_may.mono _ _ _ _ _ _ _ _ _ _ _ _ _ _
   | exact zone_put.mono _ _ _ _ _ _
   | exact LeO.none _
   | refine LeO.ite ?_ ?_
   | refine LeO.bind ?_ (fun _ => ?_)
def zone_Put.T8 : Bool × List (List Nat × List Nat) := (true, [([], []), ([0], [0]), ([], []), ([2], [2]), ([1, 3, 1], [1, 3]), ([], []), ([5], [5]), ([4, 6, 4], [4, 6]), ([7, 7, 0, 1, 2, 3, 4, 5, 6, 7], [0, 7])])
def zone_Put.B8 : List Nat := [0, 1, 0, 4, 15, 0, 32, 127, 255]
theorem zone_Put.tab8 : rtab .any (opsOf Try.f21 8) = zone_Put.T8 := by kernel_rfl
theorem zone_Put.bits8 : waitsOk zone_Put.T8.2 zone_Put.B8 = true := by kernel_rfl
set_option maxHeartbeats 8000000 in
set_option maxRecDepth 100000 in
theorem zone_Put.calls (k : Nat) (a0_0 : ByteArray) (a0_1 : Int) (a0_2 : Bool) (a1_0 : Int) (a1_1 : Int) (a1_2 : Int) (a1_3 : Nat) (a1_4 : ByteArray) (a1_5 : Int) (a1_6 : Int) (a1_7 : Nat) (a1_8 : ByteArray) (A1_9 : Option Addr) (c1_9 : Nat) (l1_9 : List Int) (r1 : List Int) (r2 : Int) (w : World) (hr1_9 : Kd.C (Kd.int .u8) w A1_9 l1_9.length l1_9) (hc1_9 : l1_9.length ≤ c1_9) (h : zone_Put.f k a0_0 a0_1 a0_2 a1_0 a1_1 a1_2 a1_3 a1_4 a1_5 a1_6 a1_7 a1_8 l1_9 = some (r1, r2)) :
  Calls Try.prog 21 #[.agg #[.string a0_0, .int .i64 a0_1, .bool a0_2], .agg #[.int .i64 a1_0, .int .i64 a1_1, .int .i64 a1_2, .float .f64 a1_3, .string a1_4, .int .i64 a1_5, .int .i64 a1_6, .float .f64 a1_7, .string a1_8, .slice A1_9 l1_9.length c1_9]] w fun e w' => ∃ v0_ : Value, e = .returned (.tuple #[v0_, .int .i64 r2]) ∧ Kd.R (Kd.int .u8) 5 w' w.heap.size (fun _ => True) v0_ r1 ∧ Below w.heap.size w w' := by
 have hu23 := Try.underlying23
 have hu31 := Try.underlying31
 have hu28 := Try.underlying28
 have HR1_9 := Aside0.mk hr1_9
 have HC1_9 := Aside0.mk hc1_9
 clear hr1_9 hc1_9
 have HB := Aside0.mk (Below.refl w.heap.size w)
 have H : ((zone_typed.f a0_0 a0_1 a0_2).bind fun t482 => (if t482 = true then ((zone_may.f k a0_0 a0_1 a0_2 a1_0 a1_1 a1_2 a1_3 a1_4 a1_5 a1_6 a1_7 a1_8 l1_9).bind fun t483 => (if t483 = true then ((cursor_PutUvarint.f k ([] : List Int) (IntKind.u64.wrap (a1_0))).bind fun t484 => ((zone_none.f a1_0 a1_1 a1_2 a1_3 a1_4 a1_5 a1_6 a1_7 a1_8 l1_9).bind fun t487 => (if t487 = true then ((cursor_Put_uint8.f k t484 0).bind fun t488 => ((cursor_PutBlock.f k t488 l1_9).bind fun t491 => (some (t491, 0)))) else ((cursor_Put_uint8.f k t484 1).bind fun t494 => ((zone_put.f k t494 a1_1 a1_2 a1_3 a1_4).bind fun t497 => ((zone_put.f k t497 a1_5 a1_6 a1_7 a1_8).bind fun t500 => ((cursor_PutBlock.f k t500 l1_9).bind fun t503 => (some (t503, 0))))))))) else (some (([] : List Int), 140)))) else (some (([] : List Int), 150)))) = some (r1, r2) := h
 clear h
 replace H := Option.bind_eq_some_iff.mp H
 obtain ⟨t482, A30, H⟩ := H
 (try dsimp only at H)
 have A3 := Aside0.mk A30
 clear A30
 by_cases c4 : t482 = true
 ·subst c4
  rw [if_pos rfl] at H
  replace H := Option.bind_eq_some_iff.mp H
  obtain ⟨t483, A50, H⟩ := H
  (try dsimp only at H)
  have A5 := Aside0.mk A50
  clear A50
  by_cases c6 : t483 = true
  ·subst c6
   rw [if_pos rfl] at H
   replace H := Option.bind_eq_some_iff.mp H
   obtain ⟨t484, A70, H⟩ := H
   (try dsimp only at H)
   have A7 := Aside0.mk A70
   clear A70
   replace H := Option.bind_eq_some_iff.mp H
   obtain ⟨t487, A80, H⟩ := H
   (try dsimp only at H)
   have A8 := Aside0.mk A80
   clear A80
   by_cases c9 : t487 = true
   ·subst c9
    rw [if_pos rfl] at H
    replace H := Option.bind_eq_some_iff.mp H
    obtain ⟨t488, A100, H⟩ := H
    (try dsimp only at H)
    have A10 := Aside0.mk A100
    clear A100
    replace H := Option.bind_eq_some_iff.mp H
    obtain ⟨t491, A110, H⟩ := H
    (try dsimp only at H)
    have A11 := Aside0.mk A110
    clear A110
    simp only [Option.some.injEq, Prod.mk.injEq] at H
    obtain ⟨rfl, rfl⟩ := H
    go_enter Try.func21, Try.ntmps21
    go_wp2_with (first | ((with_reducible refine gate_dst (N := 2) rfl ?_); refine box_event ?hg (N := 2) ?hd (cs := #[.string a0_0, .int .i64 a0_1, .bool a0_2]) (t := 23) ?hr ?_; (case hd => rfl); (case hg => rfl); (case hr => first | (go_simp; done) | (go_simp; rfl)); intro gb480 hg w12 hbox hb; have n0_ := Aside0.mk (below_step bel0 hb); have n1_ := Aside0.mk (hbox); have n2_ := Aside0.mk ((by rw [hg]; exact (below_size bel0) : w.heap.size ≤ gb480)); have n3_ := Aside0.mk ((by rw [hg]; exact (below_size bel0) : w.heap.size ≤ gb480)); clear HB; have HB := n0_; have BK480 := n1_; have GW480 := n2_; have GE480 := n3_; clear n0_ n1_ n2_ n3_; clear hb hbox hg) | ((with_reducible refine gate_dst (N := 3) rfl ?_); refine box_event ?hg (N := 3) ?hd (cs := #[.int .i64 a1_0, .int .i64 a1_1, .int .i64 a1_2, .float .f64 a1_3, .string a1_4, .int .i64 a1_5, .int .i64 a1_6, .float .f64 a1_7, .string a1_8, .slice A1_9 l1_9.length c1_9]) (t := 31) ?hr ?_; (case hd => rfl); (case hg => rfl); (case hr => first | (go_simp; done) | (go_simp; rfl)); intro gb481 hg w13 hbox hb; have n0_ := blkS BK480 hb; have n1_ := Aside0.mk (below_step bel0 hb); have n2_ := Aside0.mk (hbox); have n3_ := Aside0.mk ((by rw [hg]; exact (below_size bel0) : w.heap.size ≤ gb481)); have n4_ := Aside0.mk ((by rw [hg]; exact (below_size bel0) : w.heap.size ≤ gb481)); have n5_ := Aside0.mk ((by rw [hg]; exact Nat.ne_of_lt (blk_lt (g := gb480) (o := .cells #[.string a0_0, .int .i64 a0_1, .bool a0_2] 23 (0, 0)) (blk0 BK480)) : gb480 ≠ gb481)); have n6_ := Aside0.mk ((by rw [hg]; exact Nat.ne_of_gt (blk_lt (g := gb480) (o := .cells #[.string a0_0, .int .i64 a0_1, .bool a0_2] 23 (0, 0)) (blk0 BK480)) : gb481 ≠ gb480)); clear BK480; clear HB; have BK480 := n0_; have HB := n1_; have BK481 := n2_; have GW481 := n3_; have GE481 := n4_; have NB480_481 := n5_; have NB481_480 := n6_; clear n0_ n1_ n2_ n3_ n4_ n5_ n6_; clear hb hbox hg; have hnb14 := NB480_481.out; have hnc14 := NB481_480.out; obtain ⟨hcz15_0, hcz15_1, hcz15_2⟩ := cells_3 BK480.out; obtain ⟨hfz15_0, hfz15_1, hfz15_2⟩ := froz_3 BK480.out) | ((with_reducible refine gate_callee (f := 48) rfl ?_); refine goesQ 9 Try.func48 #[.agg #[.string a0_0, .int .i64 a0_1, .bool a0_2]] ?_; (with_reducible refine (zone_typed.calls a0_0 a0_1 a0_2 true _ A3.out).mono ?_); rintro e w16 ⟨rfl, hb⟩; refine ⟨_, rfl, ?_⟩; have n0_ := blkS BK480 hb; have n1_ := blkS BK481 hb; have n2_ := Aside0.mk (below_step bel0 hb); clear BK480; clear BK481; clear HB; have BK480 := n0_; have BK481 := n1_; have HB := n2_; clear n0_ n1_ n2_; (try clear hb); (try clear hb2); (try clear hk); (try clear hi); obtain ⟨hcz17_0, hcz17_1, hcz17_2⟩ := cells_3 BK480.out; obtain ⟨hfz17_0, hfz17_1, hfz17_2⟩ := froz_3 BK480.out; obtain ⟨hcz18_0, hcz18_1, hcz18_2, hcz18_3, hcz18_4, hcz18_5, hcz18_6, hcz18_7, hcz18_8, hcz18_9⟩ := cells_10 BK481.out; obtain ⟨hfz18_0, hfz18_1, hfz18_2, hfz18_3, hfz18_4, hfz18_5, hfz18_6, hfz18_7, hfz18_8, hfz18_9⟩ := froz_10 BK481.out) | ((with_reducible refine gate_callee (f := 59) rfl ?_); refine goesQ 14 Try.func59 #[.agg #[.string a0_0, .int .i64 a0_1, .bool a0_2], .agg #[.int .i64 a1_0, .int .i64 a1_1, .int .i64 a1_2, .float .f64 a1_3, .string a1_4, .int .i64 a1_5, .int .i64 a1_6, .float .f64 a1_7, .string a1_8, .slice A1_9 l1_9.length c1_9]] ?_; (with_reducible refine (zone_may.calls k a0_0 a0_1 a0_2 a1_0 a1_1 a1_2 a1_3 a1_4 a1_5 a1_6 a1_7 a1_8 _ _ l1_9 true _ ?side1 ?side2 A5.out).mono ?_); (case side1 => repeat (first | exact (Kd.C_below HR1_9.out HB.out) | (with_reducible refine Kd.C_alloc ?_ _) | (with_reducible refine Kd.C_drewN ?_ _) | (with_reducible refine Kd.C_drew ?_))); (case side2 => exact HC1_9.out); rintro e w19 ⟨rfl, hb⟩; refine ⟨_, rfl, ?_⟩; have n0_ := blkS BK480 hb; have n1_ := blkS BK481 hb; have n2_ := Aside0.mk (below_step bel0 hb); clear BK480; clear BK481; clear HB; have BK480 := n0_; have BK481 := n1_; have HB := n2_; clear n0_ n1_ n2_; (try clear hb); (try clear hb2); (try clear hk); (try clear hi); obtain ⟨hcz20_0, hcz20_1, hcz20_2, hcz20_3, hcz20_4, hcz20_5, hcz20_6, hcz20_7, hcz20_8, hcz20_9⟩ := cells_10 BK481.out; obtain ⟨hfz20_0, hfz20_1, hfz20_2, hfz20_3, hfz20_4, hfz20_5, hfz20_6, hfz20_7, hfz20_8, hfz20_9⟩ := froz_10 BK481.out) | ((with_reducible refine gate_callee (f := 61) rfl ?_); refine goesQ 19 Try.func61 #[.slice none 0 0, .int .u64 (IntKind.u64.wrap (a1_0))] ?_; (refine (cursor_PutUvarint.calls k _ _ ([] : List Int) (IntKind.u64.wrap (a1_0)) t484 _ ?side1 ?side2 A7.out).mono ?_); (case side1 => exact Kd.C_nil _ _); (case side2 => exact Nat.le_refl _); rintro e w21 ⟨v485, rfl, ho0, hb⟩; refine ⟨_, rfl, ?_⟩; have n0_ := Aside0.mk (Kd.R_lower ho0 (below_size bel0)); have n1_ := blkS BK480 hb; have n2_ := blkS BK481 hb; have n3_ := Aside0.mk (below_step bel0 hb); clear BK480; clear BK481; clear HB; have HO486 := n0_; have BK480 := n1_; have BK481 := n2_; have HB := n3_; clear n0_ n1_ n2_ n3_; (try clear hb); (try clear hb2); (try clear hk); (try clear hi); (try clear ho0); obtain ⟨hcz22_0, hcz22_1, hcz22_2, hcz22_3, hcz22_4, hcz22_5, hcz22_6, hcz22_7, hcz22_8, hcz22_9⟩ := cells_10 BK481.out; obtain ⟨hfz22_0, hfz22_1, hfz22_2, hfz22_3, hfz22_4, hfz22_5, hfz22_6, hfz22_7, hfz22_8, hfz22_9⟩ := froz_10 BK481.out) | ((with_reducible refine gate_callee (f := 60) rfl ?_); refine goesQ 21 Try.func60 #[.agg #[.int .i64 a1_0, .int .i64 a1_1, .int .i64 a1_2, .float .f64 a1_3, .string a1_4, .int .i64 a1_5, .int .i64 a1_6, .float .f64 a1_7, .string a1_8, .slice A1_9 l1_9.length c1_9]] ?_; (with_reducible refine (zone_none.calls a1_0 a1_1 a1_2 a1_3 a1_4 a1_5 a1_6 a1_7 a1_8 _ _ l1_9 true _ ?side1 ?side2 A8.out).mono ?_); (case side1 => repeat (first | exact (Kd.C_below HR1_9.out HB.out) | (with_reducible refine Kd.C_alloc ?_ _) | (with_reducible refine Kd.C_drewN ?_ _) | (with_reducible refine Kd.C_drew ?_))); (case side2 => exact HC1_9.out); rintro e w23 ⟨rfl, hb⟩; refine ⟨_, rfl, ?_⟩; have n0_ := Aside0.mk (Kd.R_below (row0 HO486) hb); have n1_ := blkS BK480 hb; have n2_ := blkS BK481 hb; have n3_ := Aside0.mk (below_step bel0 hb); clear HO486; clear BK480; clear BK481; clear HB; have HO486 := n0_; have BK480 := n1_; have BK481 := n2_; have HB := n3_; clear n0_ n1_ n2_ n3_; (try clear hb); (try clear hb2); (try clear hk); (try clear hi); obtain ⟨Ao24, co24, eo24⟩ := Kd.R_slice HO486.out; subst eo24) | ((with_reducible refine gate_callee (f := 62) rfl ?_); refine goesQ 23 Try.func62 #[.slice Ao24 t484.length co24, .int .u8 0] ?_; (with_reducible refine (cursor_Put_uint8.calls k _ _ t484 0 t488 _ ?side1 ?side2 A10.out).mono ?_); (case side1 => repeat (first | exact (Kd.R_reads' HO486.out).2.2 | (with_reducible refine Kd.C_alloc ?_ _) | (with_reducible refine Kd.C_drewN ?_ _) | (with_reducible refine Kd.C_drew ?_))); (case side2 => exact (Kd.R_reads' HO486.out).2.1); rintro e w25 ⟨v489, rfl, ho0, hb⟩; refine ⟨_, rfl, ?_⟩; have n0_ := Aside0.mk (Kd.R_elder' (row0 HO486) (Kd.R_base ho0) hb); have n1_ := Aside0.mk (Kd.R_lower (Kd.R_new' ho0 (Kd.R_lt (row0 HO486))) (below_size bel0)); have n2_ := blkS BK480 hb; have n3_ := blkS BK481 hb; have n4_ := Aside0.mk (below_step bel0 hb); clear HO486; clear BK480; clear BK481; clear HB; have HO486 := n0_; have HO490 := n1_; have BK480 := n2_; have BK481 := n3_; have HB := n4_; clear n0_ n1_ n2_ n3_ n4_; (try clear hb); (try clear hb2); (try clear hk); (try clear hi); (try clear ho0); obtain ⟨hcz26_0, hcz26_1, hcz26_2, hcz26_3, hcz26_4, hcz26_5, hcz26_6, hcz26_7, hcz26_8, hcz26_9⟩ := cells_10 BK481.out; obtain ⟨hfz26_0, hfz26_1, hfz26_2, hfz26_3, hfz26_4, hfz26_5, hfz26_6, hfz26_7, hfz26_8, hfz26_9⟩ := froz_10 BK481.out; obtain ⟨Ao27, co27, eo27⟩ := Kd.R_slice HO490.out; subst eo27) | ((with_reducible refine gate_callee (f := 64) rfl ?_); refine goesQ 35 Try.func64 #[.slice Ao27 t488.length co27, .slice A1_9 l1_9.length c1_9] ?_; (with_reducible refine (cursor_PutBlock.calls k _ _ t488 _ _ l1_9 t491 _ ?side1 ?side2 ?side3 ?side4 A11.out).mono ?_); (case side1 => repeat (first | exact (Kd.R_reads' HO490.out).2.2 | (with_reducible refine Kd.C_alloc ?_ _) | (with_reducible refine Kd.C_drewN ?_ _) | (with_reducible refine Kd.C_drew ?_))); (case side2 => exact (Kd.R_reads' HO490.out).2.1); (case side3 => repeat (first | exact (Kd.C_below HR1_9.out HB.out) | (with_reducible refine Kd.C_alloc ?_ _) | (with_reducible refine Kd.C_drewN ?_ _) | (with_reducible refine Kd.C_drew ?_))); (case side4 => exact HC1_9.out); rintro e w28 ⟨v492, rfl, ho0, hb⟩; refine ⟨_, rfl, ?_⟩; have n0_ := Aside0.mk (Kd.R_elder' (row0 HO486) (Kd.R_base ho0) hb); have n1_ := Aside0.mk (Kd.R_elder' (row0 HO490) (Kd.R_base ho0) hb); have n2_ := Aside0.mk (Kd.R_lower (Kd.R_new' (Kd.R_new' ho0 (Kd.R_lt (row0 HO486))) (Kd.R_lt (row0 HO490))) (below_size bel0)); have n3_ := blkS BK480 hb; have n4_ := blkS BK481 hb; have n5_ := Aside0.mk (below_step bel0 hb); clear HO486; clear HO490; clear BK480; clear BK481; clear HB; have HO486 := n0_; have HO490 := n1_; have HO493 := n2_; have BK480 := n3_; have BK481 := n4_; have HB := n5_; clear n0_ n1_ n2_ n3_ n4_ n5_; (try clear hb); (try clear hb2); (try clear hk); (try clear hi); (try clear ho0)))
    go_ret2
    exact ⟨_, by first | rfl | (simp [errW_none, errW_some] <;> rfl) | (simp [*, errW_none, errW_some] <;> rfl), by (with_reducible repeat (first | apply Kd.R_alloc | apply Kd.R_drewN | apply Kd.R_drew)); exact Kd.R_mono HO493.out (fun _ hk => trivial), bel0⟩
   ·replace c9 := Bool.eq_false_iff.mpr c9
    subst c9
    rw [if_neg (show ¬ (false = true) by decide)] at H
    replace H := Option.bind_eq_some_iff.mp H
    obtain ⟨t494, A290, H⟩ := H
    (try dsimp only at H)
    have A29 := Aside0.mk A290
    clear A290
    replace H := Option.bind_eq_some_iff.mp H
    obtain ⟨t497, A300, H⟩ := H
    (try dsimp only at H)
    have A30 := Aside0.mk A300
    clear A300
    replace H := Option.bind_eq_some_iff.mp H
    obtain ⟨t500, A310, H⟩ := H
    (try dsimp only at H)
    have A31 := Aside0.mk A310
    clear A310
    replace H := Option.bind_eq_some_iff.mp H
    obtain ⟨t503, A320, H⟩ := H
    (try dsimp only at H)
    have A32 := Aside0.mk A320
    clear A320
    simp only [Option.some.injEq, Prod.mk.injEq] at H
    obtain ⟨rfl, rfl⟩ := H
    go_enter Try.func21, Try.ntmps21
    try go_wp2_with (first | ((with_reducible refine gate_dst (N := 2) rfl ?_); refine box_event ?hg (N := 2) ?hd (cs := #[.string a0_0, .int .i64 a0_1, .bool a0_2]) (t := 23) ?hr ?_; (case hd => rfl); (case hg => rfl); (case hr => first | (go_simp; done) | (go_simp; rfl)); intro gb480 hg w33 hbox hb; have n0_ := Aside0.mk (below_step bel0 hb); have n1_ := Aside0.mk (hbox); have n2_ := Aside0.mk ((by rw [hg]; exact (below_size bel0) : w.heap.size ≤ gb480)); have n3_ := Aside0.mk ((by rw [hg]; exact (below_size bel0) : w.heap.size ≤ gb480)); clear HB; have HB := n0_; have BK480 := n1_; have GW480 := n2_; have GE480 := n3_; clear n0_ n1_ n2_ n3_; clear hb hbox hg) | ((with_reducible refine gate_dst (N := 3) rfl ?_); refine box_event ?hg (N := 3) ?hd (cs := #[.int .i64 a1_0, .int .i64 a1_1, .int .i64 a1_2, .float .f64 a1_3, .string a1_4, .int .i64 a1_5, .int .i64 a1_6, .float .f64 a1_7, .string a1_8, .slice A1_9 l1_9.length c1_9]) (t := 31) ?hr ?_; (case hd => rfl); (case hg => rfl); (case hr => first | (go_simp; done) | (go_simp; rfl)); intro gb481 hg w34 hbox hb; have n0_ := blkS BK480 hb; have n1_ := Aside0.mk (below_step bel0 hb); have n2_ := Aside0.mk (hbox); have n3_ := Aside0.mk ((by rw [hg]; exact (below_size bel0) : w.heap.size ≤ gb481)); have n4_ := Aside0.mk ((by rw [hg]; exact (below_size bel0) : w.heap.size ≤ gb481)); have n5_ := Aside0.mk ((by rw [hg]; exact Nat.ne_of_lt (blk_lt (g := gb480) (o := .cells #[.string a0_0, .int .i64 a0_1, .bool a0_2] 23 (0, 0)) (blk0 BK480)) : gb480 ≠ gb481)); have n6_ := Aside0.mk ((by rw [hg]; exact Nat.ne_of_gt (blk_lt (g := gb480) (o := .cells #[.string a0_0, .int .i64 a0_1, .bool a0_2] 23 (0, 0)) (blk0 BK480)) : gb481 ≠ gb480)); clear BK480; clear HB; have BK480 := n0_; have HB := n1_; have BK481 := n2_; have GW481 := n3_; have GE481 := n4_; have NB480_481 := n5_; have NB481_480 := n6_; clear n0_ n1_ n2_ n3_ n4_ n5_ n6_; clear hb hbox hg; have hnb35 := NB480_481.out; have hnc35 := NB481_480.out; obtain ⟨hcz36_0, hcz36_1, hcz36_2⟩ := cells_3 BK480.out; obtain ⟨hfz36_0, hfz36_1, hfz36_2⟩ := froz_3 BK480.out) | ((with_reducible refine gate_callee (f := 48) rfl ?_); refine goesQ 9 Try.func48 #[.agg #[.string a0_0, .int .i64 a0_1, .bool a0_2]] ?_; (with_reducible refine (zone_typed.calls a0_0 a0_1 a0_2 true _ A3.out).mono ?_); rintro e w37 ⟨rfl, hb⟩; refine ⟨_, rfl, ?_⟩; have n0_ := blkS BK480 hb; have n1_ := blkS BK481 hb; have n2_ := Aside0.mk (below_step bel0 hb); clear BK480; clear BK481; clear HB; have BK480 := n0_; have BK481 := n1_; have HB := n2_; clear n0_ n1_ n2_; (try clear hb); (try clear hb2); (try clear hk); (try clear hi); obtain ⟨hcz38_0, hcz38_1, hcz38_2⟩ := cells_3 BK480.out; obtain ⟨hfz38_0, hfz38_1, hfz38_2⟩ := froz_3 BK480.out; obtain ⟨hcz39_0, hcz39_1, hcz39_2, hcz39_3, hcz39_4, hcz39_5, hcz39_6, hcz39_7, hcz39_8, hcz39_9⟩ := cells_10 BK481.out; obtain ⟨hfz39_0, hfz39_1, hfz39_2, hfz39_3, hfz39_4, hfz39_5, hfz39_6, hfz39_7, hfz39_8, hfz39_9⟩ := froz_10 BK481.out) | ((with_reducible refine gate_callee (f := 59) rfl ?_); refine goesQ 14 Try.func59 #[.agg #[.string a0_0, .int .i64 a0_1, .bool a0_2], .agg #[.int .i64 a1_0, .int .i64 a1_1, .int .i64 a1_2, .float .f64 a1_3, .string a1_4, .int .i64 a1_5, .int .i64 a1_6, .float .f64 a1_7, .string a1_8, .slice A1_9 l1_9.length c1_9]] ?_; (with_reducible refine (zone_may.calls k a0_0 a0_1 a0_2 a1_0 a1_1 a1_2 a1_3 a1_4 a1_5 a1_6 a1_7 a1_8 _ _ l1_9 true _ ?side1 ?side2 A5.out).mono ?_); (case side1 => repeat (first | exact (Kd.C_below HR1_9.out HB.out) | (with_reducible refine Kd.C_alloc ?_ _) | (with_reducible refine Kd.C_drewN ?_ _) | (with_reducible refine Kd.C_drew ?_))); (case side2 => exact HC1_9.out); rintro e w40 ⟨rfl, hb⟩; refine ⟨_, rfl, ?_⟩; have n0_ := blkS BK480 hb; have n1_ := blkS BK481 hb; have n2_ := Aside0.mk (below_step bel0 hb); clear BK480; clear BK481; clear HB; have BK480 := n0_; have BK481 := n1_; have HB := n2_; clear n0_ n1_ n2_; (try clear hb); (try clear hb2); (try clear hk); (try clear hi); obtain ⟨hcz41_0, hcz41_1, hcz41_2, hcz41_3, hcz41_4, hcz41_5, hcz41_6, hcz41_7, hcz41_8, hcz41_9⟩ := cells_10 BK481.out; obtain ⟨hfz41_0, hfz41_1, hfz41_2, hfz41_3, hfz41_4, hfz41_5, hfz41_6, hfz41_7, hfz41_8, hfz41_9⟩ := froz_10 BK481.out) | ((with_reducible refine gate_callee (f := 61) rfl ?_); refine goesQ 19 Try.func61 #[.slice none 0 0, .int .u64 (IntKind.u64.wrap (a1_0))] ?_; (refine (cursor_PutUvarint.calls k _ _ ([] : List Int) (IntKind.u64.wrap (a1_0)) t484 _ ?side1 ?side2 A7.out).mono ?_); (case side1 => exact Kd.C_nil _ _); (case side2 => exact Nat.le_refl _); rintro e w42 ⟨v485, rfl, ho0, hb⟩; refine ⟨_, rfl, ?_⟩; have n0_ := Aside0.mk (Kd.R_lower ho0 (below_size bel0)); have n1_ := blkS BK480 hb; have n2_ := blkS BK481 hb; have n3_ := Aside0.mk (below_step bel0 hb); clear BK480; clear BK481; clear HB; have HO486 := n0_; have BK480 := n1_; have BK481 := n2_; have HB := n3_; clear n0_ n1_ n2_ n3_; (try clear hb); (try clear hb2); (try clear hk); (try clear hi); (try clear ho0); obtain ⟨hcz43_0, hcz43_1, hcz43_2, hcz43_3, hcz43_4, hcz43_5, hcz43_6, hcz43_7, hcz43_8, hcz43_9⟩ := cells_10 BK481.out; obtain ⟨hfz43_0, hfz43_1, hfz43_2, hfz43_3, hfz43_4, hfz43_5, hfz43_6, hfz43_7, hfz43_8, hfz43_9⟩ := froz_10 BK481.out) | ((with_reducible refine gate_callee (f := 60) rfl ?_); refine goesQ 21 Try.func60 #[.agg #[.int .i64 a1_0, .int .i64 a1_1, .int .i64 a1_2, .float .f64 a1_3, .string a1_4, .int .i64 a1_5, .int .i64 a1_6, .float .f64 a1_7, .string a1_8, .slice A1_9 l1_9.length c1_9]] ?_; (with_reducible refine (zone_none.calls a1_0 a1_1 a1_2 a1_3 a1_4 a1_5 a1_6 a1_7 a1_8 _ _ l1_9 false _ ?side1 ?side2 A8.out).mono ?_); (case side1 => repeat (first | exact (Kd.C_below HR1_9.out HB.out) | (with_reducible refine Kd.C_alloc ?_ _) | (with_reducible refine Kd.C_drewN ?_ _) | (with_reducible refine Kd.C_drew ?_))); (case side2 => exact HC1_9.out); rintro e w44 ⟨rfl, hb⟩; refine ⟨_, rfl, ?_⟩; have n0_ := Aside0.mk (Kd.R_below (row0 HO486) hb); have n1_ := blkS BK480 hb; have n2_ := blkS BK481 hb; have n3_ := Aside0.mk (below_step bel0 hb); clear HO486; clear BK480; clear BK481; clear HB; have HO486 := n0_; have BK480 := n1_; have BK481 := n2_; have HB := n3_; clear n0_ n1_ n2_ n3_; (try clear hb); (try clear hb2); (try clear hk); (try clear hi)))
    have n0_ := Aside0.mk (Kd.R_drew HO486.out)
    have n1_ := Aside0.mk (blk_drew BK480.out)
    have n2_ := Aside0.mk (blk_drew BK481.out)
    have n3_ := Aside0.mk (below_drew1 HB.out)
    clear HO486
    clear BK480
    clear BK481
    clear HB
    have HO486 := n0_
    have BK480 := n1_
    have BK481 := n2_
    have HB := n3_
    clear n0_ n1_ n2_ n3_
    obtain ⟨Ao46, co46, eo46⟩ := Kd.R_slice HO486.out
    (first | subst eo46 | (injection eo46 with f1_ f2_ f3_; have f4_ := f1_.symm; have f5_ := f3_.symm; clear f1_ f2_ f3_; subst f4_; subst f5_))
    refine start_ (n := 9) (S := fun w' => w'.cell? ⟨gb481, 0, none⟩ = some (.int .i64 a1_0) ∧ w'.cell? ⟨gb481, 1, none⟩ = some (.int .i64 a1_1) ∧ w'.cell? ⟨gb481, 2, none⟩ = some (.int .i64 a1_2) ∧ w'.cell? ⟨gb481, 3, none⟩ = some (.float .f64 a1_3) ∧ w'.cell? ⟨gb481, 4, none⟩ = some (.string a1_4) ∧ w'.cell? ⟨gb481, 5, none⟩ = some (.int .i64 a1_5) ∧ w'.cell? ⟨gb481, 6, none⟩ = some (.int .i64 a1_6) ∧ w'.cell? ⟨gb481, 7, none⟩ = some (.float .f64 a1_7) ∧ w'.cell? ⟨gb481, 8, none⟩ = some (.string a1_8) ∧ w'.cell? ⟨gb481, 9, none⟩ = some (.slice A1_9 l1_9.length c1_9)) (ds := []) #[false, false, false, false, false, false, false, false, false] (by kernel_rfl) rfl rfl ⟨(blk_cell BK481.out 0).trans rfl, (blk_cell BK481.out 1).trans rfl, (blk_cell BK481.out 2).trans rfl, (blk_cell BK481.out 3).trans rfl, (blk_cell BK481.out 4).trans rfl, (blk_cell BK481.out 5).trans rfl, (blk_cell BK481.out 6).trans rfl, (blk_cell BK481.out 7).trans rfl, (blk_cell BK481.out 8).trans rfl, (blk_cell BK481.out 9).trans rfl⟩ (fun hHeld => ?_); refine with_tabW zone_Put.tab8 zone_Put.bits8 (fun HT_ HW_ => ?_)
    generalize w44.drew = w45 at HO486 BK480 BK481 HB hHeld ⊢
    refine pureP #[true, false, false, false, false, false, false, false, false] (any_of HT_.out (by kernel_rfl)) (i := 0) (N := some 24) ?_
    refine pureP #[true, false, true, false, false, false, false, false, false] (any_of HT_.out (by kernel_rfl)) (i := 2) (N := some 26) ?_
    refine pureP #[true, false, true, false, false, true, false, false, false] (any_of HT_.out (by kernel_rfl)) (i := 5) (N := some 29) ?_
    refine takeP #[true, false, true, true, false, true, false, false, false] (take_ofW HT_.out HW_.out (by kernel_rfl)) hHeld (i := 3) (N := some 27) ?_
    refine takeP #[true, false, true, true, false, true, true, false, false] (take_ofW HT_.out HW_.out (by kernel_rfl)) hHeld (i := 6) (N := some 30) ?_
    refine one_ (i := 1) (N := some 25) #[true, true, true, true, false, true, true, false, false] rfl rfl (one_of HT_.out (by kernel_rfl)) (by decide) (fun K hK => ?_)
    refine goes_ Try.func62 (by kernel_rfl) rfl #[.slice Ao46 t484.length co46, .int .u8 1] (by rfl) rfl rfl (by (try simp only [List.map_toArray, List.map_cons, List.map_nil]); first | done | rfl | (simp only [List.length_drop, List.length_take]; rfl)) ?_
    with_reducible refine (cursor_Put_uint8.calls k _ _ t484 1 t494 _ ?side1 ?side2 A29.out).mono ?_
    (case side1 => repeat (first | exact (Kd.R_reads' HO486.out).2.2 | (with_reducible refine Kd.C_alloc ?_ _) | (with_reducible refine Kd.C_drewN ?_ _) | (with_reducible refine Kd.C_drew ?_)))
    (case side2 => exact (Kd.R_reads' HO486.out).2.1)
    rintro e w47 ⟨v495, rfl, ho0, hb⟩
    refine ⟨_, rfl, ?_⟩
    have n0_ := Aside0.mk (Kd.R_elder' (row0 HO486) (Kd.R_base ho0) hb)
    have n1_ := Aside0.mk (Kd.R_lower (Kd.R_new' ho0 (Kd.R_lt (row0 HO486))) (below_size bel0))
    have n2_ := blkS BK480 hb
    have n3_ := blkS BK481 hb
    have n4_ := Aside0.mk (below_step bel0 hb)
    clear HO486
    clear BK480
    clear BK481
    clear HB
    have HO486 := n0_
    have HO496 := n1_
    have BK480 := n2_
    have BK481 := n3_
    have HB := n4_
    clear n0_ n1_ n2_ n3_ n4_
    (try clear hb)
    (try clear hb2)
    (try clear hk)
    (try clear hi)
    (try clear ho0)
    obtain ⟨Ao48, co48, eo48⟩ := Kd.R_slice HO496.out
    (first | subst eo48 | (injection eo48 with f1_ f2_ f3_; have f4_ := f1_.symm; have f5_ := f3_.symm; clear f1_ f2_ f3_; subst f4_; subst f5_))
    refine hK.out _ _ ⟨(blk_cell BK481.out 0).trans rfl, (blk_cell BK481.out 1).trans rfl, (blk_cell BK481.out 2).trans rfl, (blk_cell BK481.out 3).trans rfl, (blk_cell BK481.out 4).trans rfl, (blk_cell BK481.out 5).trans rfl, (blk_cell BK481.out 6).trans rfl, (blk_cell BK481.out 7).trans rfl, (blk_cell BK481.out 8).trans rfl, (blk_cell BK481.out 9).trans rfl⟩ (fun hHeld => ?_)
    clear hK K
    refine norm_ (a' := ?_) ?_ ?_
    rotate_left
    ·show Act.put _ (some 25) _ = _
     simp only [Act.put, List.setIfInBounds_toArray, List.set_cons_zero, List.set_cons_succ, i64_w, i32_w]
     rfl
    refine one_ (i := 4) (N := some 28) #[true, true, true, true, true, true, true, false, false] rfl rfl (one_of HT_.out (by kernel_rfl)) (by decide) (fun K hK => ?_)
    refine goes_ Try.func63 (by kernel_rfl) rfl #[.slice Ao48 t494.length co48, .agg #[.int .i64 a1_1, .int .i64 a1_2, .float .f64 a1_3, .string a1_4]] (by rfl) rfl rfl (by (try simp only [List.map_toArray, List.map_cons, List.map_nil]); first | done | rfl | (simp only [List.length_drop, List.length_take]; rfl)) ?_
    with_reducible refine (zone_put.calls k _ _ t494 a1_1 a1_2 a1_3 a1_4 t497 _ ?side1 ?side2 A30.out).mono ?_
    (case side1 => repeat (first | exact (Kd.R_reads' HO496.out).2.2 | (with_reducible refine Kd.C_alloc ?_ _) | (with_reducible refine Kd.C_drewN ?_ _) | (with_reducible refine Kd.C_drew ?_)))
    (case side2 => exact (Kd.R_reads' HO496.out).2.1)
    rintro e w49 ⟨v498, rfl, ho0, hb⟩
    refine ⟨_, rfl, ?_⟩
    have n0_ := Aside0.mk (Kd.R_elder' (row0 HO486) (Kd.R_base ho0) hb)
    have n1_ := Aside0.mk (Kd.R_elder' (row0 HO496) (Kd.R_base ho0) hb)
    have n2_ := Aside0.mk (Kd.R_lower (Kd.R_new' (Kd.R_new' ho0 (Kd.R_lt (row0 HO486))) (Kd.R_lt (row0 HO496))) (below_size bel0))
    have n3_ := blkS BK480 hb
    have n4_ := blkS BK481 hb
    have n5_ := Aside0.mk (below_step bel0 hb)
    clear HO486
    clear HO496
    clear BK480
    clear BK481
    clear HB
    have HO486 := n0_
    have HO496 := n1_
    have HO499 := n2_
    have BK480 := n3_
    have BK481 := n4_
    have HB := n5_
    clear n0_ n1_ n2_ n3_ n4_ n5_
    (try clear hb)
    (try clear hb2)
    (try clear hk)
    (try clear hi)
    (try clear ho0)
    obtain ⟨Ao50, co50, eo50⟩ := Kd.R_slice HO499.out
    (first | subst eo50 | (injection eo50 with f1_ f2_ f3_; have f4_ := f1_.symm; have f5_ := f3_.symm; clear f1_ f2_ f3_; subst f4_; subst f5_))
    refine hK.out _ _ ⟨(blk_cell BK481.out 0).trans rfl, (blk_cell BK481.out 1).trans rfl, (blk_cell BK481.out 2).trans rfl, (blk_cell BK481.out 3).trans rfl, (blk_cell BK481.out 4).trans rfl, (blk_cell BK481.out 5).trans rfl, (blk_cell BK481.out 6).trans rfl, (blk_cell BK481.out 7).trans rfl, (blk_cell BK481.out 8).trans rfl, (blk_cell BK481.out 9).trans rfl⟩ (fun hHeld => ?_)
    clear hK K
    refine norm_ (a' := ?_) ?_ ?_
    rotate_left
    ·show Act.put _ (some 28) _ = _
     simp only [Act.put, List.setIfInBounds_toArray, List.set_cons_zero, List.set_cons_succ, i64_w, i32_w]
     rfl
    refine one_ (i := 7) (N := some 31) #[true, true, true, true, true, true, true, true, false] rfl rfl (one_of HT_.out (by kernel_rfl)) (by decide) (fun K hK => ?_)
    refine goes_ Try.func63 (by kernel_rfl) rfl #[.slice Ao50 t497.length co50, .agg #[.int .i64 a1_5, .int .i64 a1_6, .float .f64 a1_7, .string a1_8]] (by rfl) rfl rfl (by (try simp only [List.map_toArray, List.map_cons, List.map_nil]); first | done | rfl | (simp only [List.length_drop, List.length_take]; rfl)) ?_
    with_reducible refine (zone_put.calls k _ _ t497 a1_5 a1_6 a1_7 a1_8 t500 _ ?side1 ?side2 A31.out).mono ?_
    (case side1 => repeat (first | exact (Kd.R_reads' HO499.out).2.2 | (with_reducible refine Kd.C_alloc ?_ _) | (with_reducible refine Kd.C_drewN ?_ _) | (with_reducible refine Kd.C_drew ?_)))
    (case side2 => exact (Kd.R_reads' HO499.out).2.1)
    rintro e w51 ⟨v501, rfl, ho0, hb⟩
    refine ⟨_, rfl, ?_⟩
    have n0_ := Aside0.mk (Kd.R_elder' (row0 HO486) (Kd.R_base ho0) hb)
    have n1_ := Aside0.mk (Kd.R_elder' (row0 HO496) (Kd.R_base ho0) hb)
    have n2_ := Aside0.mk (Kd.R_elder' (row0 HO499) (Kd.R_base ho0) hb)
    have n3_ := Aside0.mk (Kd.R_lower (Kd.R_new' (Kd.R_new' (Kd.R_new' ho0 (Kd.R_lt (row0 HO486))) (Kd.R_lt (row0 HO496))) (Kd.R_lt (row0 HO499))) (below_size bel0))
    have n4_ := blkS BK480 hb
    have n5_ := blkS BK481 hb
    have n6_ := Aside0.mk (below_step bel0 hb)
    clear HO486
    clear HO496
    clear HO499
    clear BK480
    clear BK481
    clear HB
    have HO486 := n0_
    have HO496 := n1_
    have HO499 := n2_
    have HO502 := n3_
    have BK480 := n4_
    have BK481 := n5_
    have HB := n6_
    clear n0_ n1_ n2_ n3_ n4_ n5_ n6_
    (try clear hb)
    (try clear hb2)
    (try clear hk)
    (try clear hi)
    (try clear ho0)
    refine hK.out _ _ ⟨(blk_cell BK481.out 0).trans rfl, (blk_cell BK481.out 1).trans rfl, (blk_cell BK481.out 2).trans rfl, (blk_cell BK481.out 3).trans rfl, (blk_cell BK481.out 4).trans rfl, (blk_cell BK481.out 5).trans rfl, (blk_cell BK481.out 6).trans rfl, (blk_cell BK481.out 7).trans rfl, (blk_cell BK481.out 8).trans rfl, (blk_cell BK481.out 9).trans rfl⟩ (fun hHeld => ?_)
    clear hK K
    refine norm_ (a' := ?_) ?_ ?_
    rotate_left
    ·show Act.put _ (some 31) _ = _
     simp only [Act.put, List.setIfInBounds_toArray, List.set_cons_zero, List.set_cons_succ, i64_w, i32_w]
     rfl
    refine pureP #[true, true, true, true, true, true, true, true, true] (any_of HT_.out (by kernel_rfl)) (i := 8) (N := some 6) ?_
    refine done_ (done_of HT_.out (by kernel_rfl)) ?_
    obtain ⟨hcz52_0, hcz52_1, hcz52_2, hcz52_3, hcz52_4, hcz52_5, hcz52_6, hcz52_7, hcz52_8, hcz52_9⟩ := cells_10 BK481.out
    obtain ⟨hfz52_0, hfz52_1, hfz52_2, hfz52_3, hfz52_4, hfz52_5, hfz52_6, hfz52_7, hfz52_8, hfz52_9⟩ := froz_10 BK481.out
    obtain ⟨Ao53, co53, eo53⟩ := Kd.R_slice HO502.out
    subst eo53
    try go_wp2_with (first | ((with_reducible refine gate_callee (f := 64) rfl ?_); refine goesQ 35 Try.func64 #[.slice Ao53 t500.length co53, .slice A1_9 l1_9.length c1_9] ?_; (with_reducible refine (cursor_PutBlock.calls k _ _ t500 _ _ l1_9 t503 _ ?side1 ?side2 ?side3 ?side4 A32.out).mono ?_); (case side1 => repeat (first | exact (Kd.R_reads' HO502.out).2.2 | (with_reducible refine Kd.C_alloc ?_ _) | (with_reducible refine Kd.C_drewN ?_ _) | (with_reducible refine Kd.C_drew ?_))); (case side2 => exact (Kd.R_reads' HO502.out).2.1); (case side3 => repeat (first | exact (Kd.C_below HR1_9.out HB.out) | (with_reducible refine Kd.C_alloc ?_ _) | (with_reducible refine Kd.C_drewN ?_ _) | (with_reducible refine Kd.C_drew ?_))); (case side4 => exact HC1_9.out); rintro e w54 ⟨v504, rfl, ho0, hb⟩; refine ⟨_, rfl, ?_⟩; have n0_ := Aside0.mk (Kd.R_elder' (row0 HO486) (Kd.R_base ho0) hb); have n1_ := Aside0.mk (Kd.R_elder' (row0 HO496) (Kd.R_base ho0) hb); have n2_ := Aside0.mk (Kd.R_elder' (row0 HO499) (Kd.R_base ho0) hb); have n3_ := Aside0.mk (Kd.R_elder' (row0 HO502) (Kd.R_base ho0) hb); have n4_ := Aside0.mk (Kd.R_lower (Kd.R_new' (Kd.R_new' (Kd.R_new' (Kd.R_new' ho0 (Kd.R_lt (row0 HO486))) (Kd.R_lt (row0 HO496))) (Kd.R_lt (row0 HO499))) (Kd.R_lt (row0 HO502))) (below_size bel0)); have n5_ := blkS BK480 hb; have n6_ := blkS BK481 hb; have n7_ := Aside0.mk (below_step bel0 hb); clear HO486; clear HO496; clear HO499; clear HO502; clear BK480; clear BK481; clear HB; have HO486 := n0_; have HO496 := n1_; have HO499 := n2_; have HO502 := n3_; have HO505 := n4_; have BK480 := n5_; have BK481 := n6_; have HB := n7_; clear n0_ n1_ n2_ n3_ n4_ n5_ n6_ n7_; (try clear hb); (try clear hb2); (try clear hk); (try clear hi); (try clear ho0)))
    go_ret2
    exact ⟨_, by first | rfl | (simp [errW_none, errW_some] <;> rfl) | (simp [*, errW_none, errW_some] <;> rfl), by (with_reducible repeat (first | apply Kd.R_alloc | apply Kd.R_drewN | apply Kd.R_drew)); exact Kd.R_mono HO505.out (fun _ hk => trivial), bel0⟩
  ·replace c6 := Bool.eq_false_iff.mpr c6
   subst c6
   rw [if_neg (show ¬ (false = true) by decide)] at H
   simp only [Option.some.injEq, Prod.mk.injEq] at H
   obtain ⟨rfl, rfl⟩ := H
   go_enter Try.func21, Try.ntmps21
   go_wp2_with (first | ((with_reducible refine gate_dst (N := 2) rfl ?_); refine box_event ?hg (N := 2) ?hd (cs := #[.string a0_0, .int .i64 a0_1, .bool a0_2]) (t := 23) ?hr ?_; (case hd => rfl); (case hg => rfl); (case hr => first | (go_simp; done) | (go_simp; rfl)); intro gb480 hg w55 hbox hb; have n0_ := Aside0.mk (below_step bel0 hb); have n1_ := Aside0.mk (hbox); have n2_ := Aside0.mk ((by rw [hg]; exact (below_size bel0) : w.heap.size ≤ gb480)); have n3_ := Aside0.mk ((by rw [hg]; exact (below_size bel0) : w.heap.size ≤ gb480)); clear HB; have HB := n0_; have BK480 := n1_; have GW480 := n2_; have GE480 := n3_; clear n0_ n1_ n2_ n3_; clear hb hbox hg) | ((with_reducible refine gate_dst (N := 3) rfl ?_); refine box_event ?hg (N := 3) ?hd (cs := #[.int .i64 a1_0, .int .i64 a1_1, .int .i64 a1_2, .float .f64 a1_3, .string a1_4, .int .i64 a1_5, .int .i64 a1_6, .float .f64 a1_7, .string a1_8, .slice A1_9 l1_9.length c1_9]) (t := 31) ?hr ?_; (case hd => rfl); (case hg => rfl); (case hr => first | (go_simp; done) | (go_simp; rfl)); intro gb481 hg w56 hbox hb; have n0_ := blkS BK480 hb; have n1_ := Aside0.mk (below_step bel0 hb); have n2_ := Aside0.mk (hbox); have n3_ := Aside0.mk ((by rw [hg]; exact (below_size bel0) : w.heap.size ≤ gb481)); have n4_ := Aside0.mk ((by rw [hg]; exact (below_size bel0) : w.heap.size ≤ gb481)); have n5_ := Aside0.mk ((by rw [hg]; exact Nat.ne_of_lt (blk_lt (g := gb480) (o := .cells #[.string a0_0, .int .i64 a0_1, .bool a0_2] 23 (0, 0)) (blk0 BK480)) : gb480 ≠ gb481)); have n6_ := Aside0.mk ((by rw [hg]; exact Nat.ne_of_gt (blk_lt (g := gb480) (o := .cells #[.string a0_0, .int .i64 a0_1, .bool a0_2] 23 (0, 0)) (blk0 BK480)) : gb481 ≠ gb480)); clear BK480; clear HB; have BK480 := n0_; have HB := n1_; have BK481 := n2_; have GW481 := n3_; have GE481 := n4_; have NB480_481 := n5_; have NB481_480 := n6_; clear n0_ n1_ n2_ n3_ n4_ n5_ n6_; clear hb hbox hg; have hnb57 := NB480_481.out; have hnc57 := NB481_480.out; obtain ⟨hcz58_0, hcz58_1, hcz58_2⟩ := cells_3 BK480.out; obtain ⟨hfz58_0, hfz58_1, hfz58_2⟩ := froz_3 BK480.out) | ((with_reducible refine gate_callee (f := 48) rfl ?_); refine goesQ 9 Try.func48 #[.agg #[.string a0_0, .int .i64 a0_1, .bool a0_2]] ?_; (with_reducible refine (zone_typed.calls a0_0 a0_1 a0_2 true _ A3.out).mono ?_); rintro e w59 ⟨rfl, hb⟩; refine ⟨_, rfl, ?_⟩; have n0_ := blkS BK480 hb; have n1_ := blkS BK481 hb; have n2_ := Aside0.mk (below_step bel0 hb); clear BK480; clear BK481; clear HB; have BK480 := n0_; have BK481 := n1_; have HB := n2_; clear n0_ n1_ n2_; (try clear hb); (try clear hb2); (try clear hk); (try clear hi); obtain ⟨hcz60_0, hcz60_1, hcz60_2⟩ := cells_3 BK480.out; obtain ⟨hfz60_0, hfz60_1, hfz60_2⟩ := froz_3 BK480.out; obtain ⟨hcz61_0, hcz61_1, hcz61_2, hcz61_3, hcz61_4, hcz61_5, hcz61_6, hcz61_7, hcz61_8, hcz61_9⟩ := cells_10 BK481.out; obtain ⟨hfz61_0, hfz61_1, hfz61_2, hfz61_3, hfz61_4, hfz61_5, hfz61_6, hfz61_7, hfz61_8, hfz61_9⟩ := froz_10 BK481.out) | ((with_reducible refine gate_callee (f := 59) rfl ?_); refine goesQ 14 Try.func59 #[.agg #[.string a0_0, .int .i64 a0_1, .bool a0_2], .agg #[.int .i64 a1_0, .int .i64 a1_1, .int .i64 a1_2, .float .f64 a1_3, .string a1_4, .int .i64 a1_5, .int .i64 a1_6, .float .f64 a1_7, .string a1_8, .slice A1_9 l1_9.length c1_9]] ?_; (with_reducible refine (zone_may.calls k a0_0 a0_1 a0_2 a1_0 a1_1 a1_2 a1_3 a1_4 a1_5 a1_6 a1_7 a1_8 _ _ l1_9 false _ ?side1 ?side2 A5.out).mono ?_); (case side1 => repeat (first | exact (Kd.C_below HR1_9.out HB.out) | (with_reducible refine Kd.C_alloc ?_ _) | (with_reducible refine Kd.C_drewN ?_ _) | (with_reducible refine Kd.C_drew ?_))); (case side2 => exact HC1_9.out); rintro e w62 ⟨rfl, hb⟩; refine ⟨_, rfl, ?_⟩; have n0_ := blkS BK480 hb; have n1_ := blkS BK481 hb; have n2_ := Aside0.mk (below_step bel0 hb); clear BK480; clear BK481; clear HB; have BK480 := n0_; have BK481 := n1_; have HB := n2_; clear n0_ n1_ n2_; (try clear hb); (try clear hb2); (try clear hk); (try clear hi)))
   go_ret2
   exact ⟨_, by first | rfl | (simp [errW_none, errW_some] <;> rfl) | (simp [*, errW_none, errW_some] <;> rfl), by first | exact Kd.R_nil _ _ _ _ _ | exact Kd.N_nil _ _ _ _ _ | exact Kd.V_nil _ _ _ _ _ | exact Kd.Q_nil _ _ _ _ _ | exact Kd.S_nil _ _ _ _ _, bel0⟩
 ·replace c4 := Bool.eq_false_iff.mpr c4
  subst c4
  rw [if_neg (show ¬ (false = true) by decide)] at H
  simp only [Option.some.injEq, Prod.mk.injEq] at H
  obtain ⟨rfl, rfl⟩ := H
  go_enter Try.func21, Try.ntmps21
  go_wp2_with (first | ((with_reducible refine gate_dst (N := 2) rfl ?_); refine box_event ?hg (N := 2) ?hd (cs := #[.string a0_0, .int .i64 a0_1, .bool a0_2]) (t := 23) ?hr ?_; (case hd => rfl); (case hg => rfl); (case hr => first | (go_simp; done) | (go_simp; rfl)); intro gb480 hg w63 hbox hb; have n0_ := Aside0.mk (below_step bel0 hb); have n1_ := Aside0.mk (hbox); have n2_ := Aside0.mk ((by rw [hg]; exact (below_size bel0) : w.heap.size ≤ gb480)); have n3_ := Aside0.mk ((by rw [hg]; exact (below_size bel0) : w.heap.size ≤ gb480)); clear HB; have HB := n0_; have BK480 := n1_; have GW480 := n2_; have GE480 := n3_; clear n0_ n1_ n2_ n3_; clear hb hbox hg) | ((with_reducible refine gate_dst (N := 3) rfl ?_); refine box_event ?hg (N := 3) ?hd (cs := #[.int .i64 a1_0, .int .i64 a1_1, .int .i64 a1_2, .float .f64 a1_3, .string a1_4, .int .i64 a1_5, .int .i64 a1_6, .float .f64 a1_7, .string a1_8, .slice A1_9 l1_9.length c1_9]) (t := 31) ?hr ?_; (case hd => rfl); (case hg => rfl); (case hr => first | (go_simp; done) | (go_simp; rfl)); intro gb481 hg w64 hbox hb; have n0_ := blkS BK480 hb; have n1_ := Aside0.mk (below_step bel0 hb); have n2_ := Aside0.mk (hbox); have n3_ := Aside0.mk ((by rw [hg]; exact (below_size bel0) : w.heap.size ≤ gb481)); have n4_ := Aside0.mk ((by rw [hg]; exact (below_size bel0) : w.heap.size ≤ gb481)); have n5_ := Aside0.mk ((by rw [hg]; exact Nat.ne_of_lt (blk_lt (g := gb480) (o := .cells #[.string a0_0, .int .i64 a0_1, .bool a0_2] 23 (0, 0)) (blk0 BK480)) : gb480 ≠ gb481)); have n6_ := Aside0.mk ((by rw [hg]; exact Nat.ne_of_gt (blk_lt (g := gb480) (o := .cells #[.string a0_0, .int .i64 a0_1, .bool a0_2] 23 (0, 0)) (blk0 BK480)) : gb481 ≠ gb480)); clear BK480; clear HB; have BK480 := n0_; have HB := n1_; have BK481 := n2_; have GW481 := n3_; have GE481 := n4_; have NB480_481 := n5_; have NB481_480 := n6_; clear n0_ n1_ n2_ n3_ n4_ n5_ n6_; clear hb hbox hg; have hnb65 := NB480_481.out; have hnc65 := NB481_480.out; obtain ⟨hcz66_0, hcz66_1, hcz66_2⟩ := cells_3 BK480.out; obtain ⟨hfz66_0, hfz66_1, hfz66_2⟩ := froz_3 BK480.out) | ((with_reducible refine gate_callee (f := 48) rfl ?_); refine goesQ 9 Try.func48 #[.agg #[.string a0_0, .int .i64 a0_1, .bool a0_2]] ?_; (with_reducible refine (zone_typed.calls a0_0 a0_1 a0_2 false _ A3.out).mono ?_); rintro e w67 ⟨rfl, hb⟩; refine ⟨_, rfl, ?_⟩; have n0_ := blkS BK480 hb; have n1_ := blkS BK481 hb; have n2_ := Aside0.mk (below_step bel0 hb); clear BK480; clear BK481; clear HB; have BK480 := n0_; have BK481 := n1_; have HB := n2_; clear n0_ n1_ n2_; (try clear hb); (try clear hb2); (try clear hk); (try clear hi)))
  go_ret2
  exact ⟨_, by first | rfl | (simp [errW_none, errW_some] <;> rfl) | (simp [*, errW_none, errW_some] <;> rfl), by first | exact Kd.R_nil _ _ _ _ _ | exact Kd.N_nil _ _ _ _ _ | exact Kd.V_nil _ _ _ _ _ | exact Kd.Q_nil _ _ _ _ _ | exact Kd.S_nil _ _ _ _ _, bel0⟩
end Go.Proofs.Ythiidgmemoineaa.Pa
