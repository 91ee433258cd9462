/- The texts of ZoneOfs, merged: part 22. -/
import Derived.Test.YthiidgmemoineaaQZoneOfs6
import Derived.Test.YthiidgmemoineaaQZoneOfs8
import Derived.Test.YthiidgmemoineaaQZoneOfs10
import Derived.Test.YthiidgmemoineaaQZoneOfs21
-- Written by xprint.py, a program of this session, over the kit's print. Not trusted: Lean checks it.
namespace Go.Proofs.Ythiidgmemoineaa.Pa
open Go.RowKit Go.Proofs.YthiidgmemoineaaW.PrintWords Go.Proofs.YthiidgmemoineaaW.PrintLast Go.Proofs.YthiidgmemoineaaW.PrintMore
attribute [local go_sem] max2_int min2_int max_two min_two max_three min_three max_four min_four   -- for this text's walks alone
attribute [local go_sem] run_store_float cmp_feq cmp_fne cmp_flt cmp_fle cmp_fgt cmp_fge un_fneg equalIn_feq run_fop run_fint run_freal cmp_sgt ext_bits ext_frombits ext_cmpb
set_option linter.unusedVariables false
set_option linter.unusedSimpArgs false

/-! ### colonnaderef14_Of: function 13 -/
mutual
def colonnaderef14_Of.l0 : Nat → List (S28) → Int → List (S28) → Int → ByteArray → Int → Bool → Int → Int → Int → Nat → ByteArray → Int → Int → Nat → ByteArray → Option (Int × Int × Int × Nat × ByteArray × Int × Int × Nat × ByteArray × List Int × Int)
  | 0, _, _, _, _, _, _, _, _, _, _, _, _, _, _, _, _ => none
  | k + 1, x1, x2, x9, x10, x195000, x195001, x195002, x197000, x197001, x197002, x197003, x197004, x197005, x197006, x197007, x197008 => if x10 < (x1.length : Int) then (if 0 ≤ x10 then ((colonnaderef05_Fits.f k x195000 x195001 x195002 ((rd_T28 x1 x10).f0) ((rd_T28 x1 x10).f1) ((rd_T28 x1 x10).f2) ((rd_T28 x1 x10).f3)).bind fun t199 => (if t199 = true then (if ((rd_T28 x1 x10).f0) = 0 then (colonnaderef14_Of.l0 k x1 x2 x9 (wrap64 (x10 + 1)) x195000 x195001 x195002 (wrap64 (x197000 + 1)) x197001 x197002 x197003 x197004 x197005 x197006 x197007 x197008) else (if x9.length < 3518437208883 then ((some (x9 ++ [(⟨(rd_T28 x1 x10).f0, (rd_T28 x1 x10).f1, (rd_T28 x1 x10).f2, (rd_T28 x1 x10).f3⟩ : S28)] : List (S28))).bind fun y202 => (if (y202.length : Int) = 1 then (colonnaderef14_Of.j1 k x1 x2 y202 x10 true x195000 x195001 x195002 x197000 x197001 x197002 x197003 x197004 x197005 x197006 x197007 x197008) else ((colonnaderef05_Compare.f k ((rd_T28 x1 x10).f0) ((rd_T28 x1 x10).f1) ((rd_T28 x1 x10).f2) ((rd_T28 x1 x10).f3) x197001 x197002 x197003 x197004).bind fun t206 => (colonnaderef14_Of.j1 k x1 x2 y202 x10 (decide (t206 < 0)) x195000 x195001 x195002 x197000 x197001 x197002 x197003 x197004 x197005 x197006 x197007 x197008)))) else (none))) else (some (0, 0, 0, (0 : Nat), (⟨#[]⟩ : ByteArray), 0, 0, (0 : Nat), (⟨#[]⟩ : ByteArray), ([] : List Int), 50)))) else (none)) else (if x2 = 0 then (some (x197000, x197001, x197002, x197003, x197004, x197005, x197006, x197007, x197008, ([] : List Int), 0)) else ((colonnaderef13_Build.f k x2 x9).bind fun bt216 => (if bt216.2 = 0 then (some (x197000, x197001, x197002, x197003, x197004, x197005, x197006, x197007, x197008, bt216.1, 0)) else (some (0, 0, 0, (0 : Nat), (⟨#[]⟩ : ByteArray), 0, 0, (0 : Nat), (⟨#[]⟩ : ByteArray), ([] : List Int), bt216.2)))))
def colonnaderef14_Of.j1 : Nat → List (S28) → Int → List (S28) → Int → Bool → ByteArray → Int → Bool → Int → Int → Int → Nat → ByteArray → Int → Int → Nat → ByteArray → Option (Int × Int × Int × Nat × ByteArray × Int × Int × Nat × ByteArray × List Int × Int)
  | 0, _, _, _, _, _, _, _, _, _, _, _, _, _, _, _, _, _ => none
  | k + 1, x1, x2, x9, x10, x66, x195000, x195001, x195002, x197000, x197001, x197002, x197003, x197004, x197005, x197006, x197007, x197008 => if x66 = true then (if 0 ≤ x10 then (if x10 < (x1.length : Int) then (if (x9.length : Int) = 1 then (colonnaderef14_Of.l0 k x1 x2 x9 (wrap64 (x10 + 1)) x195000 x195001 x195002 x197000 ((rd_T28 x1 x10).f0) ((rd_T28 x1 x10).f1) ((rd_T28 x1 x10).f2) ((rd_T28 x1 x10).f3) ((rd_T28 x1 x10).f0) ((rd_T28 x1 x10).f1) ((rd_T28 x1 x10).f2) ((rd_T28 x1 x10).f3)) else ((colonnaderef05_Compare.f k ((rd_T28 x1 x10).f0) ((rd_T28 x1 x10).f1) ((rd_T28 x1 x10).f2) ((rd_T28 x1 x10).f3) x197005 x197006 x197007 x197008).bind fun t210 => (if t210 > 0 then (colonnaderef14_Of.l0 k x1 x2 x9 (wrap64 (x10 + 1)) x195000 x195001 x195002 x197000 ((rd_T28 x1 x10).f0) ((rd_T28 x1 x10).f1) ((rd_T28 x1 x10).f2) ((rd_T28 x1 x10).f3) ((rd_T28 x1 x10).f0) ((rd_T28 x1 x10).f1) ((rd_T28 x1 x10).f2) ((rd_T28 x1 x10).f3)) else (colonnaderef14_Of.l0 k x1 x2 x9 (wrap64 (x10 + 1)) x195000 x195001 x195002 x197000 ((rd_T28 x1 x10).f0) ((rd_T28 x1 x10).f1) ((rd_T28 x1 x10).f2) ((rd_T28 x1 x10).f3) x197005 x197006 x197007 x197008)))) else (none)) else (none)) else (if (x9.length : Int) = 1 then (if 0 ≤ x10 then (if x10 < (x1.length : Int) then (colonnaderef14_Of.l0 k x1 x2 x9 (wrap64 (x10 + 1)) x195000 x195001 x195002 x197000 x197001 x197002 x197003 x197004 ((rd_T28 x1 x10).f0) ((rd_T28 x1 x10).f1) ((rd_T28 x1 x10).f2) ((rd_T28 x1 x10).f3)) else (none)) else (none)) else (if 0 ≤ x10 then (if x10 < (x1.length : Int) then ((colonnaderef05_Compare.f k ((rd_T28 x1 x10).f0) ((rd_T28 x1 x10).f1) ((rd_T28 x1 x10).f2) ((rd_T28 x1 x10).f3) x197005 x197006 x197007 x197008).bind fun t214 => (if t214 > 0 then (colonnaderef14_Of.l0 k x1 x2 x9 (wrap64 (x10 + 1)) x195000 x195001 x195002 x197000 x197001 x197002 x197003 x197004 ((rd_T28 x1 x10).f0) ((rd_T28 x1 x10).f1) ((rd_T28 x1 x10).f2) ((rd_T28 x1 x10).f3)) else (colonnaderef14_Of.l0 k x1 x2 x9 (wrap64 (x10 + 1)) x195000 x195001 x195002 x197000 x197001 x197002 x197003 x197004 x197005 x197006 x197007 x197008))) else (none)) else (none)))
end
def colonnaderef14_Of.f (k : Nat) (a0_0 : ByteArray) (a0_1 : Int) (a0_2 : Bool) (l1 : List (S28)) (a2 : Int) : Option (Int × Int × Int × Nat × ByteArray × Int × Int × Nat × ByteArray × List Int × Int) := (colonnaderef14_typed.f a0_0 a0_1 a0_2).bind fun t197 => (if t197 = true then (if (l1.length : Int) > 16777216 then (some (0, 0, 0, (0 : Nat), (⟨#[]⟩ : ByteArray), 0, 0, (0 : Nat), (⟨#[]⟩ : ByteArray), ([] : List Int), 3)) else (colonnaderef14_Of.l0 k l1 a2 ([] : List (S28)) 0 a0_0 a0_1 a0_2 0 0 0 (0 : Nat) (⟨#[]⟩ : ByteArray) 0 0 (0 : Nat) (⟨#[]⟩ : ByteArray))) else (some (0, 0, 0, (0 : Nat), (⟨#[]⟩ : ByteArray), 0, 0, (0 : Nat), (⟨#[]⟩ : ByteArray), ([] : List Int), 150)))
theorem colonnaderef14_Of.mono_l : ∀ k, (∀ y0 y1 y2 y3 y4 y5 y6 y7 y8 y9 y10 y11 y12 y13 y14 y15, LeO (colonnaderef14_Of.l0 k y0 y1 y2 y3 y4 y5 y6 y7 y8 y9 y10 y11 y12 y13 y14 y15) (colonnaderef14_Of.l0 (k + 1) y0 y1 y2 y3 y4 y5 y6 y7 y8 y9 y10 y11 y12 y13 y14 y15)) ∧ (∀ y0 y1 y2 y3 y4 y5 y6 y7 y8 y9 y10 y11 y12 y13 y14 y15 y16, LeO (colonnaderef14_Of.j1 k y0 y1 y2 y3 y4 y5 y6 y7 y8 y9 y10 y11 y12 y13 y14 y15 y16) (colonnaderef14_Of.j1 (k + 1) y0 y1 y2 y3 y4 y5 y6 y7 y8 y9 y10 y11 y12 y13 y14 y15 y16))
  | 0 => ⟨fun _ _ _ _ _ _ _ _ _ _ _ _ _ _ _ _ r h => by simp [colonnaderef14_Of.l0] at h, fun _ _ _ _ _ _ _ _ _ _ _ _ _ _ _ _ _ r h => by simp [colonnaderef14_Of.j1] at h⟩
  | k + 1 => by
    obtain ⟨ih0, ih1⟩ := colonnaderef14_Of.mono_l k
    refine ⟨?_, ?_⟩
    · intro y0 y1 y2 y3 y4 y5 y6 y7 y8 y9 y10 y11 y12 y13 y14 y15
      unfold colonnaderef14_Of.l0
      repeat' first
      | (with_reducible exact ih0 _ _ _ _ _ _ _ _ _ _ _ _ _ _ _ _)
      | (with_reducible exact ih1 _ _ _ _ _ _ _ _ _ _ _ _ _ _ _ _ _)
      | (with_reducible exact colonnaderef05_Compare.mono _ _ _ _ _ _ _ _ _)
      | (with_reducible exact colonnaderef05_Fits.mono _ _ _ _ _ _ _ _)
      | (with_reducible exact colonnaderef13_Build.mono _ _ _)
      | (with_reducible exact LeO.refl _)
      | (with_reducible exact LeO.none _)
      | (with_reducible refine LeO.ite ?_ ?_)
      | (with_reducible refine LeO.bind ?_ (fun _ => ?_))
      | exact ih0 _ _ _ _ _ _ _ _ _ _ _ _ _ _ _ _
      | exact ih1 _ _ _ _ _ _ _ _ _ _ _ _ _ _ _ _ _
      | exact colonnaderef05_Compare.mono _ _ _ _ _ _ _ _ _
      | exact colonnaderef05_Fits.mono _ _ _ _ _ _ _ _
      | exact colonnaderef13_Build.mono _ _ _
      | exact LeO.none _
      | refine LeO.ite ?_ ?_
      | refine LeO.bind ?_ (fun _ => ?_)
    · intro y0 y1 y2 y3 y4 y5 y6 y7 y8 y9 y10 y11 y12 y13 y14 y15 y16
      unfold colonnaderef14_Of.j1
      repeat' first
      | (with_reducible exact ih0 _ _ _ _ _ _ _ _ _ _ _ _ _ _ _ _)
      | (with_reducible exact ih1 _ _ _ _ _ _ _ _ _ _ _ _ _ _ _ _ _)
      | (with_reducible exact colonnaderef05_Compare.mono _ _ _ _ _ _ _ _ _)
      | (with_reducible exact colonnaderef05_Fits.mono _ _ _ _ _ _ _ _)
      | (with_reducible exact colonnaderef13_Build.mono _ _ _)
      | (with_reducible exact LeO.refl _)
      | (with_reducible exact LeO.none _)
      | (with_reducible refine LeO.ite ?_ ?_)
      | (with_reducible refine LeO.bind ?_ (fun _ => ?_))
      | exact ih0 _ _ _ _ _ _ _ _ _ _ _ _ _ _ _ _
      | exact ih1 _ _ _ _ _ _ _ _ _ _ _ _ _ _ _ _ _
      | exact colonnaderef05_Compare.mono _ _ _ _ _ _ _ _ _
      | exact colonnaderef05_Fits.mono _ _ _ _ _ _ _ _
      | exact colonnaderef13_Build.mono _ _ _
      | exact LeO.none _
      | refine LeO.ite ?_ ?_
      | refine LeO.bind ?_ (fun _ => ?_)
theorem colonnaderef14_Of.mono : ∀ a0 a1 a2 a3 a4 k, LeO (colonnaderef14_Of.f k a0 a1 a2 a3 a4) (colonnaderef14_Of.f (k + 1) a0 a1 a2 a3 a4) := by
  intro a0 a1 a2 a3 a4 k
  obtain ⟨ih0, ih1⟩ := colonnaderef14_Of.mono_l k
  unfold colonnaderef14_Of.f
  repeat' first
      | (with_reducible exact ih0 _ _ _ _ _ _ _ _ _ _ _ _ _ _ _ _)
      | (with_reducible exact ih1 _ _ _ _ _ _ _ _ _ _ _ _ _ _ _ _ _)
      | (with_reducible exact colonnaderef05_Compare.mono _ _ _ _ _ _ _ _ _)
      | (with_reducible exact colonnaderef05_Fits.mono _ _ _ _ _ _ _ _)
      | (with_reducible exact colonnaderef13_Build.mono _ _ _)
      | (with_reducible exact LeO.refl _)
      | (with_reducible exact LeO.none _)
      | (with_reducible refine LeO.ite ?_ ?_)
      | (with_reducible refine LeO.bind ?_ (fun _ => ?_))
      | exact ih0 _ _ _ _ _ _ _ _ _ _ _ _ _ _ _ _
      | exact ih1 _ _ _ _ _ _ _ _ _ _ _ _ _ _ _ _ _
      | exact colonnaderef05_Compare.mono _ _ _ _ _ _ _ _ _
      | exact colonnaderef05_Fits.mono _ _ _ _ _ _ _ _
      | exact colonnaderef13_Build.mono _ _ _
      | exact LeO.none _
      | refine LeO.ite ?_ ?_
      | refine LeO.bind ?_ (fun _ => ?_)
def colonnaderef14_Of.T16 : Bool × List (List Nat × List Nat) := (true, [([], []), ([0], [0]), ([1], [1]), ([2], [2]), ([3], [3]), ([3], [3]), ([4, 5, 3], [3, 4, 5]), ([6, 3], [3, 6]), ([3], [3]), ([8, 3], [3, 8]), ([7, 9, 3, 3], [3, 7, 9]), ([10, 3], [3, 10]), ([3, 11], [3, 11])])
def colonnaderef14_Of.B16 : List Nat := [0, 1, 3, 7, 15, 15, 63, 127, 15, 271, 1023, 2047, 4095]
theorem colonnaderef14_Of.tab16 : rtab .any (opsOf Try.f13 16) = colonnaderef14_Of.T16 := by kernel_rfl
theorem colonnaderef14_Of.bits16 : waitsOk colonnaderef14_Of.T16.2 colonnaderef14_Of.B16 = true := by kernel_rfl
def colonnaderef14_Of.T18 : Bool × List (List Nat × List Nat) := (true, [([], []), ([0], [0]), ([1], [1]), ([2], [2]), ([3], [3]), ([3], [3]), ([4, 5, 3], [3, 4, 5]), ([6, 3], [3, 6]), ([3], [3]), ([8, 3], [3, 8]), ([7, 9, 3, 3], [3, 7, 9]), ([10, 3], [3, 10]), ([3, 11], [3, 11])])
def colonnaderef14_Of.B18 : List Nat := [0, 1, 3, 7, 15, 15, 63, 127, 15, 271, 1023, 2047, 4095]
theorem colonnaderef14_Of.tab18 : rtab .any (opsOf Try.f13 18) = colonnaderef14_Of.T18 := by kernel_rfl
theorem colonnaderef14_Of.bits18 : waitsOk colonnaderef14_Of.T18.2 colonnaderef14_Of.B18 = true := by kernel_rfl
set_option maxHeartbeats 8000000 in
set_option maxRecDepth 100000 in
theorem colonnaderef14_Of.calls (k : Nat) (a0_0 : ByteArray) (a0_1 : Int) (a0_2 : Bool) (A1 : Option Addr) (c1 : Nat) (l1 : List (S28)) (a2 : Int) (r1 : Int) (r2 : Int) (r3 : Int) (r4 : Nat) (r5 : ByteArray) (r6 : Int) (r7 : Int) (r8 : Nat) (r9 : ByteArray) (r10 : List Int) (r11 : Int) (w : World) (hr1 : Kd.C k28 w A1 l1.length l1) (hc1 : l1.length ≤ c1) (h : colonnaderef14_Of.f k a0_0 a0_1 a0_2 l1 a2 = some (r1, r2, r3, r4, r5, r6, r7, r8, r9, r10, r11)) :
    Calls Try.prog 13 #[.agg #[.string a0_0, .int .i64 a0_1, .bool a0_2], .slice A1 l1.length c1, .int .i64 a2] w fun e w' => ∃ v9_ : Value, e = .returned (.tuple #[.agg #[.int .i64 r1, .int .i64 r2, .int .i64 r3, .float .f64 r4, .string r5, .int .i64 r6, .int .i64 r7, .float .f64 r8, .string r9, v9_], .int .i64 r11]) ∧ Kd.R (Kd.int .u8) 5 w' w.heap.size (fun _ => True) v9_ r10 ∧ Below w.heap.size w w' := by
  have hu23 := Try.underlying23
  have hu31 := Try.underlying31
  have hu28 := Try.underlying28
  have HR1 := Aside0.mk hr1
  have HC1 := Aside0.mk hc1
  clear hr1 hc1
  have HB := Aside0.mk (Below.refl w.heap.size w)
  have H : ((colonnaderef14_typed.f a0_0 a0_1 a0_2).bind fun t197 => (if t197 = true then (if (l1.length : Int) > 16777216 then (some (0, 0, 0, (0 : Nat), (⟨#[]⟩ : ByteArray), 0, 0, (0 : Nat), (⟨#[]⟩ : ByteArray), ([] : List Int), 3)) else (colonnaderef14_Of.l0 k l1 a2 ([] : List (S28)) 0 a0_0 a0_1 a0_2 0 0 0 (0 : Nat) (⟨#[]⟩ : ByteArray) 0 0 (0 : Nat) (⟨#[]⟩ : ByteArray))) else (some (0, 0, 0, (0 : Nat), (⟨#[]⟩ : ByteArray), 0, 0, (0 : Nat), (⟨#[]⟩ : ByteArray), ([] : List Int), 150)))) = some (r1, r2, r3, r4, r5, r6, r7, r8, r9, r10, r11) := h
  clear h
  replace H := Option.bind_eq_some_iff.mp H
  obtain ⟨t197, A40, H⟩ := H
  (try dsimp only at H)
  have A4 := Aside0.mk A40
  clear A40
  by_cases c5 : t197 = true
  · subst c5
    rw [if_pos rfl] at H
    by_cases c6 : (l1.length : Int) > 16777216
    · rw [if_pos c6] at H
      have c6b0 : decide (16777216 < (l1.length : Int)) = true := decide_eq_true c6
      have c6b1 : decide (16777216 < l1.length) = true := decide_eq_true (by omega)
      clear c6
      simp only [Option.some.injEq, Prod.mk.injEq] at H
      obtain ⟨rfl, rfl, rfl, rfl, rfl, rfl, rfl, rfl, rfl, rfl, rfl⟩ := H
      go_enter Try.func13, Try.ntmps13
      go_wp2_with (first | ((with_reducible refine gate_dst (N := 3) rfl ?_); refine box_event ?hg (N := 3) ?hd (cs := #[.string a0_0, .int .i64 a0_1, .bool a0_2]) (t := 23) ?hr ?_; (case hd => rfl); (case hg => rfl); (case hr => first | (go_simp; done) | (go_simp; rfl)); intro gb194 hg w7 hbox hb; have n0_ := Aside0.mk (below_step bel0 hb); have n1_ := Aside0.mk (hbox); have n2_ := Aside0.mk ((by rw [hg]; exact (below_size bel0) : w.heap.size ≤ gb194)); have n3_ := Aside0.mk ((by rw [hg]; exact (below_size bel0) : w.heap.size ≤ gb194)); clear HB; have HB := n0_; have BK194 := n1_; have GW194 := n2_; have GE194 := n3_; clear n0_ n1_ n2_ n3_; clear hb hbox hg) | ((with_reducible refine gate_dst (N := 6) rfl ?_); refine box_event ?hg (N := 6) ?hd (cs := #[.int .i64 0, .int .i64 0, .int .i64 0, .float .f64 (0 : Nat), .string (⟨#[]⟩ : ByteArray), .int .i64 0, .int .i64 0, .float .f64 (0 : Nat), .string (⟨#[]⟩ : ByteArray), .slice none 0 0]) (t := 31) ?hr ?_; (case hd => rfl); (case hg => rfl); (case hr => first | (go_simp; done) | (go_simp; rfl)); intro gb195 hg w8 hbox hb; have n0_ := blkS BK194 hb; have n1_ := Aside0.mk (below_step bel0 hb); have n2_ := Aside0.mk (hbox); have n3_ := Aside0.mk ((by rw [hg]; exact (below_size bel0) : w.heap.size ≤ gb195)); have n4_ := Aside0.mk ((by rw [hg]; exact (below_size bel0) : w.heap.size ≤ gb195)); have n5_ := Aside0.mk ((by rw [hg]; exact Nat.ne_of_lt (blk_lt (g := gb194) (o := .cells #[.string a0_0, .int .i64 a0_1, .bool a0_2] 23 (0, 0)) (blk0 BK194)) : gb194 ≠ gb195)); have n6_ := Aside0.mk ((by rw [hg]; exact Nat.ne_of_gt (blk_lt (g := gb194) (o := .cells #[.string a0_0, .int .i64 a0_1, .bool a0_2] 23 (0, 0)) (blk0 BK194)) : gb195 ≠ gb194)); clear BK194; clear HB; have BK194 := n0_; have HB := n1_; have BK195 := n2_; have GW195 := n3_; have GE195 := n4_; have NB194_195 := n5_; have NB195_194 := n6_; clear n0_ n1_ n2_ n3_ n4_ n5_ n6_; clear hb hbox hg) | ((with_reducible refine gate_dst (N := 8) rfl ?_); refine box_event ?hg (N := 8) ?hd (cs := #[.int .i64 0, .int .i64 0, .int .i64 0, .float .f64 (0 : Nat), .string (⟨#[]⟩ : ByteArray), .int .i64 0, .int .i64 0, .float .f64 (0 : Nat), .string (⟨#[]⟩ : ByteArray), .slice none 0 0]) (t := 31) ?hr ?_; (case hd => rfl); (case hg => rfl); (case hr => first | (go_simp; done) | (go_simp; rfl)); intro gb196 hg w9 hbox hb; have n0_ := blkS BK194 hb; have n1_ := blkS BK195 hb; have n2_ := Aside0.mk (below_step bel0 hb); have n3_ := Aside0.mk (hbox); have n4_ := Aside0.mk ((by rw [hg]; exact (below_size bel0) : w.heap.size ≤ gb196)); have n5_ := Aside0.mk ((by rw [hg]; exact (below_size bel0) : w.heap.size ≤ gb196)); have n6_ := Aside0.mk ((by rw [hg]; exact Nat.ne_of_lt (blk_lt (g := gb194) (o := .cells #[.string a0_0, .int .i64 a0_1, .bool a0_2] 23 (0, 0)) (blk0 BK194)) : gb194 ≠ gb196)); have n7_ := Aside0.mk ((by rw [hg]; exact Nat.ne_of_gt (blk_lt (g := gb194) (o := .cells #[.string a0_0, .int .i64 a0_1, .bool a0_2] 23 (0, 0)) (blk0 BK194)) : gb196 ≠ gb194)); have n8_ := Aside0.mk ((by rw [hg]; exact Nat.ne_of_lt (blk_lt (g := gb195) (o := .cells #[.int .i64 0, .int .i64 0, .int .i64 0, .float .f64 (0 : Nat), .string (⟨#[]⟩ : ByteArray), .int .i64 0, .int .i64 0, .float .f64 (0 : Nat), .string (⟨#[]⟩ : ByteArray), .slice none 0 0] 31 (0, 0)) (blk0 BK195)) : gb195 ≠ gb196)); have n9_ := Aside0.mk ((by rw [hg]; exact Nat.ne_of_gt (blk_lt (g := gb195) (o := .cells #[.int .i64 0, .int .i64 0, .int .i64 0, .float .f64 (0 : Nat), .string (⟨#[]⟩ : ByteArray), .int .i64 0, .int .i64 0, .float .f64 (0 : Nat), .string (⟨#[]⟩ : ByteArray), .slice none 0 0] 31 (0, 0)) (blk0 BK195)) : gb196 ≠ gb195)); clear BK194; clear BK195; clear HB; have BK194 := n0_; have BK195 := n1_; have HB := n2_; have BK196 := n3_; have GW196 := n4_; have GE196 := n5_; have NB194_196 := n6_; have NB196_194 := n7_; have NB195_196 := n8_; have NB196_195 := n9_; clear n0_ n1_ n2_ n3_ n4_ n5_ n6_ n7_ n8_ n9_; clear hb hbox hg; have hnb10 := NB194_195.out; have hnc10 := NB195_194.out; have hnb11 := NB194_196.out; have hnc11 := NB196_194.out; obtain ⟨hcz12_0, hcz12_1, hcz12_2⟩ := cells_3 BK194.out; obtain ⟨hfz12_0, hfz12_1, hfz12_2⟩ := froz_3 BK194.out) | ((with_reducible refine gate_callee (f := 44) rfl ?_); refine goesQ 15 Try.func44 #[.agg #[.string a0_0, .int .i64 a0_1, .bool a0_2]] ?_; (with_reducible refine (colonnaderef14_typed.calls a0_0 a0_1 a0_2 true _ A4.out).mono ?_); rintro e w13 ⟨rfl, hb⟩; refine ⟨_, rfl, ?_⟩; have n0_ := blkS BK194 hb; have n1_ := blkS BK195 hb; have n2_ := blkS BK196 hb; have n3_ := Aside0.mk (below_step bel0 hb); clear BK194; clear BK195; clear BK196; clear HB; have BK194 := n0_; have BK195 := n1_; have BK196 := n2_; have HB := n3_; clear n0_ n1_ n2_ n3_; (try clear hb); (try clear hb2); (try clear hk); (try clear hi); have hnb14 := NB196_195.out; have hnc14 := NB195_196.out; obtain ⟨hcz15_0, hcz15_1, hcz15_2, hcz15_3, hcz15_4, hcz15_5, hcz15_6, hcz15_7, hcz15_8, hcz15_9⟩ := cells_10 BK196.out; obtain ⟨hfz15_0, hfz15_1, hfz15_2, hfz15_3, hfz15_4, hfz15_5, hfz15_6, hfz15_7, hfz15_8, hfz15_9⟩ := froz_10 BK196.out; obtain ⟨hcz16_0, hcz16_1, hcz16_2, hcz16_3, hcz16_4, hcz16_5, hcz16_6, hcz16_7, hcz16_8, hcz16_9⟩ := cells_10 BK195.out; obtain ⟨hfz16_0, hfz16_1, hfz16_2, hfz16_3, hfz16_4, hfz16_5, hfz16_6, hfz16_7, hfz16_8, hfz16_9⟩ := froz_10 BK195.out))
      refine bodyPost_ret (results_ct rfl _ _ gb195 31 #[.int .i64 0, .int .i64 0, .int .i64 0, .float .f64 (0 : Nat), .string (⟨#[]⟩ : ByteArray), .int .i64 0, .int .i64 0, .float .f64 (0 : Nat), .string (⟨#[]⟩ : ByteArray), .slice none 0 0] (0, 0) _ rfl (by (with_reducible repeat (first | refine blk_drewN ?_ _ | refine blk_drew ?_ | refine blk_alloc ?_ _)); refine blk_put (cs := #[.int .i64 0, .int .i64 0, .int .i64 0, .float .f64 (0 : Nat), .string (⟨#[]⟩ : ByteArray), .int .i64 0, .int .i64 0, .float .f64 (0 : Nat), .string (⟨#[]⟩ : ByteArray), .slice none 0 0]) ?_ 9 _ rfl; (with_reducible repeat (first | refine blk_drewN ?_ _ | refine blk_drew ?_ | refine blk_alloc ?_ _)); refine blk_put (cs := #[.int .i64 0, .int .i64 0, .int .i64 0, .float .f64 (0 : Nat), .string (⟨#[]⟩ : ByteArray), .int .i64 0, .int .i64 0, .float .f64 (0 : Nat), .string (⟨#[]⟩ : ByteArray), .slice none 0 0]) ?_ 8 _ rfl; (with_reducible repeat (first | refine blk_drewN ?_ _ | refine blk_drew ?_ | refine blk_alloc ?_ _)); refine blk_put (cs := #[.int .i64 0, .int .i64 0, .int .i64 0, .float .f64 (0 : Nat), .string (⟨#[]⟩ : ByteArray), .int .i64 0, .int .i64 0, .float .f64 (0 : Nat), .string (⟨#[]⟩ : ByteArray), .slice none 0 0]) ?_ 7 _ rfl; (with_reducible repeat (first | refine blk_drewN ?_ _ | refine blk_drew ?_ | refine blk_alloc ?_ _)); refine blk_put (cs := #[.int .i64 0, .int .i64 0, .int .i64 0, .float .f64 (0 : Nat), .string (⟨#[]⟩ : ByteArray), .int .i64 0, .int .i64 0, .float .f64 (0 : Nat), .string (⟨#[]⟩ : ByteArray), .slice none 0 0]) ?_ 6 _ rfl; (with_reducible repeat (first | refine blk_drewN ?_ _ | refine blk_drew ?_ | refine blk_alloc ?_ _)); refine blk_put (cs := #[.int .i64 0, .int .i64 0, .int .i64 0, .float .f64 (0 : Nat), .string (⟨#[]⟩ : ByteArray), .int .i64 0, .int .i64 0, .float .f64 (0 : Nat), .string (⟨#[]⟩ : ByteArray), .slice none 0 0]) ?_ 5 _ rfl; (with_reducible repeat (first | refine blk_drewN ?_ _ | refine blk_drew ?_ | refine blk_alloc ?_ _)); refine blk_put (cs := #[.int .i64 0, .int .i64 0, .int .i64 0, .float .f64 (0 : Nat), .string (⟨#[]⟩ : ByteArray), .int .i64 0, .int .i64 0, .float .f64 (0 : Nat), .string (⟨#[]⟩ : ByteArray), .slice none 0 0]) ?_ 4 _ rfl; (with_reducible repeat (first | refine blk_drewN ?_ _ | refine blk_drew ?_ | refine blk_alloc ?_ _)); refine blk_put (cs := #[.int .i64 0, .int .i64 0, .int .i64 0, .float .f64 (0 : Nat), .string (⟨#[]⟩ : ByteArray), .int .i64 0, .int .i64 0, .float .f64 (0 : Nat), .string (⟨#[]⟩ : ByteArray), .slice none 0 0]) ?_ 3 _ rfl; (with_reducible repeat (first | refine blk_drewN ?_ _ | refine blk_drew ?_ | refine blk_alloc ?_ _)); refine blk_put (cs := #[.int .i64 0, .int .i64 0, .int .i64 0, .float .f64 (0 : Nat), .string (⟨#[]⟩ : ByteArray), .int .i64 0, .int .i64 0, .float .f64 (0 : Nat), .string (⟨#[]⟩ : ByteArray), .slice none 0 0]) ?_ 2 _ rfl; (with_reducible repeat (first | refine blk_drewN ?_ _ | refine blk_drew ?_ | refine blk_alloc ?_ _)); refine blk_put (cs := #[.int .i64 0, .int .i64 0, .int .i64 0, .float .f64 (0 : Nat), .string (⟨#[]⟩ : ByteArray), .int .i64 0, .int .i64 0, .float .f64 (0 : Nat), .string (⟨#[]⟩ : ByteArray), .slice none 0 0]) ?_ 1 _ rfl; (with_reducible repeat (first | refine blk_drewN ?_ _ | refine blk_drew ?_ | refine blk_alloc ?_ _)); refine blk_put (cs := #[.int .i64 0, .int .i64 0, .int .i64 0, .float .f64 (0 : Nat), .string (⟨#[]⟩ : ByteArray), .int .i64 0, .int .i64 0, .float .f64 (0 : Nat), .string (⟨#[]⟩ : ByteArray), .slice none 0 0]) ?_ 0 _ rfl; (with_reducible repeat (first | refine blk_drewN ?_ _ | refine blk_drew ?_ | refine blk_alloc ?_ _)); exact BK195.out) Try.underlying31 rfl (by kernel_rfl)) rfl ?_
      exact ⟨_, by first | rfl | (simp [errW_none, errW_some] <;> rfl) | (simp [*, errW_none, errW_some] <;> rfl), by first | exact Kd.R_nil _ _ _ _ _ | exact Kd.N_nil _ _ _ _ _ | exact Kd.V_nil _ _ _ _ _ | exact Kd.Q_nil _ _ _ _ _ | exact Kd.S_nil _ _ _ _ _, bel0⟩
    · rw [if_neg c6] at H
      have c6b0 : decide (16777216 < (l1.length : Int)) = false := decide_eq_false c6
      have c6b1 : decide (16777216 < l1.length) = false := decide_eq_false (by omega)
      clear c6
      have H' := Aside0.mk H
      clear H
      go_enter Try.func13, Try.ntmps13
      go_wp2_with (first | ((with_reducible refine gate_dst (N := 3) rfl ?_); refine box_event ?hg (N := 3) ?hd (cs := #[.string a0_0, .int .i64 a0_1, .bool a0_2]) (t := 23) ?hr ?_; (case hd => rfl); (case hg => rfl); (case hr => first | (go_simp; done) | (go_simp; rfl)); intro gb194 hg w17 hbox hb; have n0_ := Aside0.mk (below_step bel0 hb); have n1_ := Aside0.mk (hbox); have n2_ := Aside0.mk ((by rw [hg]; exact (below_size bel0) : w.heap.size ≤ gb194)); have n3_ := Aside0.mk ((by rw [hg]; exact (below_size bel0) : w.heap.size ≤ gb194)); clear HB; have HB := n0_; have BK194 := n1_; have GW194 := n2_; have GE194 := n3_; clear n0_ n1_ n2_ n3_; clear hb hbox hg) | ((with_reducible refine gate_dst (N := 6) rfl ?_); refine box_event ?hg (N := 6) ?hd (cs := #[.int .i64 0, .int .i64 0, .int .i64 0, .float .f64 (0 : Nat), .string (⟨#[]⟩ : ByteArray), .int .i64 0, .int .i64 0, .float .f64 (0 : Nat), .string (⟨#[]⟩ : ByteArray), .slice none 0 0]) (t := 31) ?hr ?_; (case hd => rfl); (case hg => rfl); (case hr => first | (go_simp; done) | (go_simp; rfl)); intro gb195 hg w18 hbox hb; have n0_ := blkS BK194 hb; have n1_ := Aside0.mk (below_step bel0 hb); have n2_ := Aside0.mk (hbox); have n3_ := Aside0.mk ((by rw [hg]; exact (below_size bel0) : w.heap.size ≤ gb195)); have n4_ := Aside0.mk ((by rw [hg]; exact (below_size bel0) : w.heap.size ≤ gb195)); have n5_ := Aside0.mk ((by rw [hg]; exact Nat.ne_of_lt (blk_lt (g := gb194) (o := .cells #[.string a0_0, .int .i64 a0_1, .bool a0_2] 23 (0, 0)) (blk0 BK194)) : gb194 ≠ gb195)); have n6_ := Aside0.mk ((by rw [hg]; exact Nat.ne_of_gt (blk_lt (g := gb194) (o := .cells #[.string a0_0, .int .i64 a0_1, .bool a0_2] 23 (0, 0)) (blk0 BK194)) : gb195 ≠ gb194)); clear BK194; clear HB; have BK194 := n0_; have HB := n1_; have BK195 := n2_; have GW195 := n3_; have GE195 := n4_; have NB194_195 := n5_; have NB195_194 := n6_; clear n0_ n1_ n2_ n3_ n4_ n5_ n6_; clear hb hbox hg) | ((with_reducible refine gate_dst (N := 8) rfl ?_); refine box_event ?hg (N := 8) ?hd (cs := #[.int .i64 0, .int .i64 0, .int .i64 0, .float .f64 (0 : Nat), .string (⟨#[]⟩ : ByteArray), .int .i64 0, .int .i64 0, .float .f64 (0 : Nat), .string (⟨#[]⟩ : ByteArray), .slice none 0 0]) (t := 31) ?hr ?_; (case hd => rfl); (case hg => rfl); (case hr => first | (go_simp; done) | (go_simp; rfl)); intro gb196 hg w19 hbox hb; have n0_ := blkS BK194 hb; have n1_ := blkS BK195 hb; have n2_ := Aside0.mk (below_step bel0 hb); have n3_ := Aside0.mk (hbox); have n4_ := Aside0.mk ((by rw [hg]; exact (below_size bel0) : w.heap.size ≤ gb196)); have n5_ := Aside0.mk ((by rw [hg]; exact (below_size bel0) : w.heap.size ≤ gb196)); have n6_ := Aside0.mk ((by rw [hg]; exact Nat.ne_of_lt (blk_lt (g := gb194) (o := .cells #[.string a0_0, .int .i64 a0_1, .bool a0_2] 23 (0, 0)) (blk0 BK194)) : gb194 ≠ gb196)); have n7_ := Aside0.mk ((by rw [hg]; exact Nat.ne_of_gt (blk_lt (g := gb194) (o := .cells #[.string a0_0, .int .i64 a0_1, .bool a0_2] 23 (0, 0)) (blk0 BK194)) : gb196 ≠ gb194)); have n8_ := Aside0.mk ((by rw [hg]; exact Nat.ne_of_lt (blk_lt (g := gb195) (o := .cells #[.int .i64 0, .int .i64 0, .int .i64 0, .float .f64 (0 : Nat), .string (⟨#[]⟩ : ByteArray), .int .i64 0, .int .i64 0, .float .f64 (0 : Nat), .string (⟨#[]⟩ : ByteArray), .slice none 0 0] 31 (0, 0)) (blk0 BK195)) : gb195 ≠ gb196)); have n9_ := Aside0.mk ((by rw [hg]; exact Nat.ne_of_gt (blk_lt (g := gb195) (o := .cells #[.int .i64 0, .int .i64 0, .int .i64 0, .float .f64 (0 : Nat), .string (⟨#[]⟩ : ByteArray), .int .i64 0, .int .i64 0, .float .f64 (0 : Nat), .string (⟨#[]⟩ : ByteArray), .slice none 0 0] 31 (0, 0)) (blk0 BK195)) : gb196 ≠ gb195)); clear BK194; clear BK195; clear HB; have BK194 := n0_; have BK195 := n1_; have HB := n2_; have BK196 := n3_; have GW196 := n4_; have GE196 := n5_; have NB194_196 := n6_; have NB196_194 := n7_; have NB195_196 := n8_; have NB196_195 := n9_; clear n0_ n1_ n2_ n3_ n4_ n5_ n6_ n7_ n8_ n9_; clear hb hbox hg; have hnb20 := NB194_195.out; have hnc20 := NB195_194.out; have hnb21 := NB194_196.out; have hnc21 := NB196_194.out; obtain ⟨hcz22_0, hcz22_1, hcz22_2⟩ := cells_3 BK194.out; obtain ⟨hfz22_0, hfz22_1, hfz22_2⟩ := froz_3 BK194.out) | ((with_reducible refine gate_callee (f := 44) rfl ?_); refine goesQ 15 Try.func44 #[.agg #[.string a0_0, .int .i64 a0_1, .bool a0_2]] ?_; (with_reducible refine (colonnaderef14_typed.calls a0_0 a0_1 a0_2 true _ A4.out).mono ?_); rintro e w23 ⟨rfl, hb⟩; refine ⟨_, rfl, ?_⟩; have n0_ := blkS BK194 hb; have n1_ := blkS BK195 hb; have n2_ := blkS BK196 hb; have n3_ := Aside0.mk (below_step bel0 hb); clear BK194; clear BK195; clear BK196; clear HB; have BK194 := n0_; have BK195 := n1_; have BK196 := n2_; have HB := n3_; clear n0_ n1_ n2_ n3_; (try clear hb); (try clear hb2); (try clear hk); (try clear hi)))
      go_loopg [9, 10] k (fun kq v9 v10 w' => ∃ (x9_1 : List (S28)) (x10_1 : Int) (x196000_1 : Int) (x196001_1 : Int) (x196002_1 : Int) (x196003_1 : Nat) (x196004_1 : ByteArray) (x196005_1 : Int) (x196006_1 : Int) (x196007_1 : Nat) (x196008_1 : ByteArray) (x197000_1 : Int) (x197001_1 : Int) (x197002_1 : Int) (x197003_1 : Nat) (x197004_1 : ByteArray) (x197005_1 : Int) (x197006_1 : Int) (x197007_1 : Nat) (x197008_1 : ByteArray), v10 = .int .i64 x10_1 ∧ Aside0 (colonnaderef14_Of.l0 kq l1 a2 x9_1 x10_1 a0_0 a0_1 a0_2 x197000_1 x197001_1 x197002_1 x197003_1 x197004_1 x197005_1 x197006_1 x197007_1 x197008_1 = some (r1, r2, r3, r4, r5, r6, r7, r8, r9, r10, r11)) ∧ Aside0 (kq ≤ k) ∧ Aside0 (Kd.R k28 28 w' w.heap.size (fun _ => True) v9 x9_1) ∧ Aside0 (w'.heap[gb194]? = some (.cells #[.string a0_0, .int .i64 a0_1, .bool a0_2] 23 (0, 0))) ∧ Aside0 (w'.heap[gb195]? = some (.cells #[.int .i64 x196000_1, .int .i64 x196001_1, .int .i64 x196002_1, .float .f64 x196003_1, .string x196004_1, .int .i64 x196005_1, .int .i64 x196006_1, .float .f64 x196007_1, .string x196008_1, (.slice none 0 0)] 31 (0, 0))) ∧ Aside0 (w'.heap[gb196]? = some (.cells #[.int .i64 x197000_1, .int .i64 x197001_1, .int .i64 x197002_1, .float .f64 x197003_1, .string x197004_1, .int .i64 x197005_1, .int .i64 x197006_1, .float .f64 x197007_1, .string x197008_1, (.slice none 0 0)] 31 (0, 0))) ∧ Aside0 (Below w.heap.size w w'))
      case atStart => exact ⟨(([] : List (S28))), (0), (0), (0), (0), ((0 : Nat)), ((⟨#[]⟩ : ByteArray)), (0), (0), ((0 : Nat)), ((⟨#[]⟩ : ByteArray)), (0), (0), (0), ((0 : Nat)), ((⟨#[]⟩ : ByteArray)), (0), (0), ((0 : Nat)), ((⟨#[]⟩ : ByteArray)), (by first | rfl | (simp; done) | (simp [*]; done)), H', ⟨Nat.le_refl _⟩, ⟨by first | exact Kd.R_nil _ _ _ _ _ | exact Kd.N_nil _ _ _ _ _ | exact Kd.V_nil _ _ _ _ _ | exact Kd.Q_nil _ _ _ _ _ | exact Kd.S_nil _ _ _ _ _⟩, ⟨by (with_reducible repeat (first | refine blk_drewN ?_ _ | refine blk_drew ?_ | refine blk_alloc ?_ _)); exact BK194.out⟩, ⟨by (with_reducible repeat (first | refine blk_drewN ?_ _ | refine blk_drew ?_ | refine blk_alloc ?_ _)); exact BK195.out⟩, ⟨by (with_reducible repeat (first | refine blk_drewN ?_ _ | refine blk_drew ?_ | refine blk_alloc ?_ _)); exact BK196.out⟩, ⟨bel0⟩⟩
      case round =>
        clear H'
        try clear c1
        try clear c2
        try clear p2
        try clear c4
        try clear c5
        try clear c6
        try clear c6b0
        try clear c6b1
        try clear c10
        try clear c11
        try clear c13
        try clear c14
        try clear c20
        try clear c21
        try clear hcz12_0
        try clear hcz12_1
        try clear hcz12_2
        try clear hcz15_0
        try clear hcz15_1
        try clear hcz15_2
        try clear hcz15_3
        try clear hcz15_4
        try clear hcz15_5
        try clear hcz15_6
        try clear hcz15_7
        try clear hcz15_8
        try clear hcz15_9
        try clear hcz16_0
        try clear hcz16_1
        try clear hcz16_2
        try clear hcz16_3
        try clear hcz16_4
        try clear hcz16_5
        try clear hcz16_6
        try clear hcz16_7
        try clear hcz16_8
        try clear hcz16_9
        try clear hcz22_0
        try clear hcz22_1
        try clear hcz22_2
        try clear hfz12_0
        try clear hfz12_1
        try clear hfz12_2
        try clear hfz15_0
        try clear hfz15_1
        try clear hfz15_2
        try clear hfz15_3
        try clear hfz15_4
        try clear hfz15_5
        try clear hfz15_6
        try clear hfz15_7
        try clear hfz15_8
        try clear hfz15_9
        try clear hfz16_0
        try clear hfz16_1
        try clear hfz16_2
        try clear hfz16_3
        try clear hfz16_4
        try clear hfz16_5
        try clear hfz16_6
        try clear hfz16_7
        try clear hfz16_8
        try clear hfz16_9
        try clear hfz22_0
        try clear hfz22_1
        try clear hfz22_2
        obtain ⟨x9_1, x10_1, x196000_1, x196001_1, x196002_1, x196003_1, x196004_1, x196005_1, x196006_1, x196007_1, x196008_1, x197000_1, x197001_1, x197002_1, x197003_1, x197004_1, x197005_1, x197006_1, x197007_1, x197008_1, rfl, HA, HK1, HO_9, BK194, BK195, BK196, HB⟩ := hrel
        cases gk with
        | zero => exact absurd HA.out (by simp [colonnaderef14_Of.l0])
        | succ k1 =>
          have H := HA.out
          clear HA
          simp only [colonnaderef14_Of.l0] at H
          by_cases c24 : x10_1 < (l1.length : Int)
          · rw [if_pos c24] at H
            have c24b0 : decide (x10_1 < (l1.length : Int)) = true := decide_eq_true c24
            clear c24
            by_cases c25 : 0 ≤ x10_1
            · rw [if_pos c25] at H
              have c25b0 : decide (0 ≤ x10_1) = true := decide_eq_true c25
              clear c25
              replace H := Option.bind_eq_some_iff.mp H
              obtain ⟨t199, A260, H⟩ := H
              (try dsimp only at H)
              have A26 := Aside0.mk A260
              clear A260
              by_cases c27 : t199 = true
              · subst c27
                rw [if_pos rfl] at H
                by_cases c28 : ((rd_T28 l1 x10_1).f0) = 0
                · rw [if_pos c28] at H
                  have c28b0 : (((rd_T28 l1 x10_1).f0) == 0) = true := beq_iff_eq.mpr c28
                  have c28b1 : (((rd_T28 l1 x10_1).f0) != 0) = false := bne_eq_false_iff_eq.mpr c28
                  clear c28
                  have H' := Aside0.mk H
                  clear H
                  try go_wp2
                  have n0_ := Aside0.mk (Kd.R_drew HO_9.out)
                  have n1_ := Aside0.mk (blk_drew BK194.out)
                  have n2_ := Aside0.mk (blk_drew BK195.out)
                  have n3_ := Aside0.mk (blk_drew BK196.out)
                  have n4_ := Aside0.mk (below_drew1 HB.out)
                  clear HO_9
                  clear BK194
                  clear BK195
                  clear BK196
                  clear HB
                  have HO_9 := n0_
                  have BK194 := n1_
                  have BK195 := n2_
                  have BK196 := n3_
                  have HB := n4_
                  clear n0_ n1_ n2_ n3_ n4_
                  have p198 : 0 ≤ (x10_1 : Int) := of_decide_eq_true (by first | (with_reducible assumption) | assumption)
                  have q198 : x10_1 < (l1.length : Int) := of_decide_eq_true (by first | (with_reducible assumption) | assumption)
                  obtain ⟨ad198, e198, hx198_0, hx198_1, hx198_2, hx198_3⟩ := at_T28 HR1.out x10_1 p198 q198
                  have hw198_3 := hx198_3
                  have hw198_2 := hx198_2
                  have hw198_1 := hx198_1
                  have hw198_0 := hx198_0
                  cases e198
                  replace hx198_0 := (HB.out.cell (World.block_lt_of_cell? w _ hx198_0)).trans hx198_0
                  replace hx198_1 := (HB.out.cell (World.block_lt_of_cell? w _ hx198_1)).trans hx198_1
                  replace hx198_2 := (HB.out.cell (World.block_lt_of_cell? w _ hx198_2)).trans hx198_2
                  replace hx198_3 := (HB.out.cell (World.block_lt_of_cell? w _ hx198_3)).trans hx198_3
                  replace p198 := eq_true p198
                  replace q198 := eq_true q198
                  refine start_ (n := 7) (S := fun w' => w'.cell? ⟨gb194, 0, none⟩ = some (.string a0_0) ∧ w'.cell? ⟨gb194, 1, none⟩ = some (.int .i64 a0_1) ∧ w'.cell? ⟨gb194, 2, none⟩ = some (.bool a0_2) ∧ w'.cell? (ad198.add ((x10_1).toNat * 4)) = some (.int .i64 ((rd_T28 l1 x10_1).f0)) ∧ w'.cell? ⟨(ad198.add ((x10_1).toNat * 4)).block, (ad198.add ((x10_1).toNat * 4)).off + 1, none⟩ = some (.int .i64 ((rd_T28 l1 x10_1).f1)) ∧ w'.cell? ⟨(ad198.add ((x10_1).toNat * 4)).block, (ad198.add ((x10_1).toNat * 4)).off + 2, none⟩ = some (.float .f64 ((rd_T28 l1 x10_1).f2)) ∧ w'.cell? ⟨(ad198.add ((x10_1).toNat * 4)).block, (ad198.add ((x10_1).toNat * 4)).off + 3, none⟩ = some (.string ((rd_T28 l1 x10_1).f3))) (ds := []) #[false, false, false, false, false, false, false] (by kernel_rfl) rfl rfl ⟨(blk_cell BK194.out 0).trans rfl, (blk_cell BK194.out 1).trans rfl, (blk_cell BK194.out 2).trans rfl, ((HB.out.cell (World.block_lt_of_cell? w _ hw198_0)).trans hw198_0), ((HB.out.cell (World.block_lt_of_cell? w _ hw198_1)).trans hw198_1), ((HB.out.cell (World.block_lt_of_cell? w _ hw198_2)).trans hw198_2), ((HB.out.cell (World.block_lt_of_cell? w _ hw198_3)).trans hw198_3)⟩ (fun hHeld => ?_)
                  generalize wr.drew = w29 at HO_9 BK194 BK195 BK196 HB hx198_0 hx198_1 hx198_2 hx198_3 hHeld ⊢
                  refine pureP #[false, true, false, false, false, false, false] (by kernel_rfl) (i := 1) (N := some 29) ?_
                  refine pureP #[false, true, true, false, false, false, false] (by kernel_rfl) (i := 2) (N := some 30) ?_
                  refine pureP #[false, true, true, true, false, false, false] (by kernel_rfl) (i := 3) (N := some 31) ?_
                  refine takeP #[true, true, true, true, false, false, false] (by kernel_rfl) hHeld (i := 0) (N := some 28) ?_
                  refine takeP #[true, true, true, true, true, false, false] (by kernel_rfl) hHeld (i := 4) (N := some 32) ?_
                  refine one_ (i := 5) (N := some 33) #[true, true, true, true, true, true, false] rfl rfl (by kernel_rfl) (by decide) (fun K hK => ?_)
                  refine goes_ Try.func45 (by kernel_rfl) rfl #[.agg #[.string a0_0, .int .i64 a0_1, .bool a0_2], .agg #[.int .i64 ((rd_T28 l1 x10_1).f0), .int .i64 ((rd_T28 l1 x10_1).f1), .float .f64 ((rd_T28 l1 x10_1).f2), .string ((rd_T28 l1 x10_1).f3)]] (by rfl) rfl rfl (by (try simp only [List.map_toArray, List.map_cons, List.map_nil]); first | done | rfl | (simp only [List.length_drop, List.length_take]; rfl)) ?_
                  with_reducible refine (colonnaderef05_Fits.calls k1 a0_0 a0_1 a0_2 ((rd_T28 l1 x10_1).f0) ((rd_T28 l1 x10_1).f1) ((rd_T28 l1 x10_1).f2) ((rd_T28 l1 x10_1).f3) true _ A26.out).mono ?_
                  rintro e w30 ⟨rfl, hb⟩
                  refine ⟨_, rfl, ?_⟩
                  have n0_ := Aside0.mk (Kd.R_below (row0 HO_9) hb)
                  have n1_ := blkS BK194 hb
                  have n2_ := blkS BK195 hb
                  have n3_ := blkS BK196 hb
                  have n4_ := Aside0.mk (below_step bel0 hb)
                  clear HO_9
                  clear BK194
                  clear BK195
                  clear BK196
                  clear HB
                  have HO_9 := n0_
                  have BK194 := n1_
                  have BK195 := n2_
                  have BK196 := n3_
                  have HB := n4_
                  clear n0_ n1_ n2_ n3_ n4_
                  (try clear hb)
                  (try clear hb2)
                  (try clear hk)
                  (try clear hi)
                  refine hK.out _ _ ⟨(blk_cell BK194.out 0).trans rfl, (blk_cell BK194.out 1).trans rfl, (blk_cell BK194.out 2).trans rfl, ((HB.out.cell (World.block_lt_of_cell? w _ hw198_0)).trans hw198_0), ((HB.out.cell (World.block_lt_of_cell? w _ hw198_1)).trans hw198_1), ((HB.out.cell (World.block_lt_of_cell? w _ hw198_2)).trans hw198_2), ((HB.out.cell (World.block_lt_of_cell? w _ hw198_3)).trans hw198_3)⟩ (fun hHeld => ?_)
                  clear hK K
                  refine norm_ (a' := ?_) ?_ ?_
                  rotate_left
                  · show Act.put _ (some 33) _ = _
                    simp only [Act.put, List.setIfInBounds_toArray, List.set_cons_zero, List.set_cons_succ, i64_w, i32_w]
                    rfl
                  refine pureP #[true, true, true, true, true, true, true] (by kernel_rfl) (i := 6) (N := some 11) ?_
                  refine done_ (by kernel_rfl) ?_
                  have p200 : 0 ≤ (x10_1 : Int) := of_decide_eq_true (by first | (with_reducible assumption) | assumption)
                  have q200 : x10_1 < (l1.length : Int) := of_decide_eq_true (by first | (with_reducible assumption) | assumption)
                  obtain ⟨ad200, e200, hx200_0, hx200_1, hx200_2, hx200_3⟩ := at_T28 HR1.out x10_1 p200 q200
                  obtain rfl : ad198 = ad200 := (by injection e200)
                  replace hx200_0 := (HB.out.cell (World.block_lt_of_cell? w _ hx200_0)).trans hx200_0
                  replace hx200_1 := (HB.out.cell (World.block_lt_of_cell? w _ hx200_1)).trans hx200_1
                  replace hx200_2 := (HB.out.cell (World.block_lt_of_cell? w _ hx200_2)).trans hx200_2
                  replace hx200_3 := (HB.out.cell (World.block_lt_of_cell? w _ hx200_3)).trans hx200_3
                  replace p200 := eq_true p200
                  replace q200 := eq_true q200
                  have hnb31 := NB196_194.out
                  have hnc31 := NB194_196.out
                  have hnb32 := NB196_195.out
                  have hnc32 := NB195_196.out
                  obtain ⟨hcz33_0, hcz33_1, hcz33_2, hcz33_3, hcz33_4, hcz33_5, hcz33_6, hcz33_7, hcz33_8, hcz33_9⟩ := cells_10 BK196.out
                  obtain ⟨hfz33_0, hfz33_1, hfz33_2, hfz33_3, hfz33_4, hfz33_5, hfz33_6, hfz33_7, hfz33_8, hfz33_9⟩ := froz_10 BK196.out
                  try go_wp2
                  go_roundg k1
                  case measure => have := HK1.out; omega
                  case rel => exact ⟨(x9_1), (wrap64 (x10_1 + 1)), (x196000_1), (x196001_1), (x196002_1), (x196003_1), (x196004_1), (x196005_1), (x196006_1), (x196007_1), (x196008_1), (wrap64 (x197000_1 + 1)), (x197001_1), (x197002_1), (x197003_1), (x197004_1), (x197005_1), (x197006_1), (x197007_1), (x197008_1), (by first | rfl | (simp; done) | (simp [*]; done)), H', ⟨by have := HK1.out; omega⟩, ⟨by (with_reducible repeat (first | apply Kd.R_alloc | apply Kd.R_drewN | apply Kd.R_drew)); exact Kd.R_mono (Kd.R_far (p := ⟨gb196, 0, none⟩) (Kd.R_types HO_9.out BK196.out (by decide)) (fun _ hk => hk.2) (.int .i64 (wrap64 (x197000_1 + 1)))) (fun _ hk => trivial)⟩, ⟨by (with_reducible repeat (first | refine blk_drewN ?_ _ | refine blk_drew ?_ | refine blk_alloc ?_ _)); refine blk_far ?_ NB194_196.out _; (with_reducible repeat (first | refine blk_drewN ?_ _ | refine blk_drew ?_ | refine blk_alloc ?_ _)); exact BK194.out⟩, ⟨by (with_reducible repeat (first | refine blk_drewN ?_ _ | refine blk_drew ?_ | refine blk_alloc ?_ _)); refine blk_far ?_ NB195_196.out _; (with_reducible repeat (first | refine blk_drewN ?_ _ | refine blk_drew ?_ | refine blk_alloc ?_ _)); exact BK195.out⟩, ⟨by (with_reducible repeat (first | refine blk_drewN ?_ _ | refine blk_drew ?_ | refine blk_alloc ?_ _)); refine blk_put (cs := #[.int .i64 x197000_1, .int .i64 x197001_1, .int .i64 x197002_1, .float .f64 x197003_1, .string x197004_1, .int .i64 x197005_1, .int .i64 x197006_1, .float .f64 x197007_1, .string x197008_1, .slice none 0 0]) ?_ 0 _ rfl; (with_reducible repeat (first | refine blk_drewN ?_ _ | refine blk_drew ?_ | refine blk_alloc ?_ _)); exact BK196.out⟩, ⟨bel0⟩⟩
                · rw [if_neg c28] at H
                  have c28b0 : (((rd_T28 l1 x10_1).f0) == 0) = false := beq_eq_false_iff_ne.mpr c28
                  have c28b1 : (((rd_T28 l1 x10_1).f0) != 0) = true := bne_iff_ne.mpr c28
                  by_cases c34 : x9_1.length < 3518437208883
                  · rw [if_pos c34] at H
                    have LMc34 := Aside0.mk c34
                    clear c34
                    obtain ⟨y202, hy202⟩ : ∃ y_ : List (S28), y_ = (x9_1 ++ [(⟨(rd_T28 l1 x10_1).f0, (rd_T28 l1 x10_1).f1, (rd_T28 l1 x10_1).f2, (rd_T28 l1 x10_1).f3⟩ : S28)]) := ⟨_, rfl⟩
                    replace H : (if (y202.length : Int) = 1 then (colonnaderef14_Of.j1 k1 l1 a2 y202 x10_1 true a0_0 a0_1 a0_2 x197000_1 x197001_1 x197002_1 x197003_1 x197004_1 x197005_1 x197006_1 x197007_1 x197008_1) else ((colonnaderef05_Compare.f k1 ((rd_T28 l1 x10_1).f0) ((rd_T28 l1 x10_1).f1) ((rd_T28 l1 x10_1).f2) ((rd_T28 l1 x10_1).f3) x197001_1 x197002_1 x197003_1 x197004_1).bind fun t206 => (colonnaderef14_Of.j1 k1 l1 a2 y202 x10_1 (decide (t206 < 0)) a0_0 a0_1 a0_2 x197000_1 x197001_1 x197002_1 x197003_1 x197004_1 x197005_1 x197006_1 x197007_1 x197008_1))) = some (r1, r2, r3, r4, r5, r6, r7, r8, r9, r10, r11) := by first | (rw [hy202]; with_reducible exact H) | (have H2_ := (Option.bind_some _ _).symm.trans H; rw [hy202]; with_reducible exact H2_) | (have H2_ := (Option.bind_some _ _).symm.trans H; with_reducible exact H2_) | with_reducible exact H | (rw [hy202]; exact H) | exact H
                    have Ny202 := Aside0.mk hy202
                    clear hy202
                    have HC35 := Aside0.mk H
                    clear H
                    try go_wp2
                    have n0_ := Aside0.mk (Kd.R_drew HO_9.out)
                    have n1_ := Aside0.mk (blk_drew BK194.out)
                    have n2_ := Aside0.mk (blk_drew BK195.out)
                    have n3_ := Aside0.mk (blk_drew BK196.out)
                    have n4_ := Aside0.mk (below_drew1 HB.out)
                    clear HO_9
                    clear BK194
                    clear BK195
                    clear BK196
                    clear HB
                    have HO_9 := n0_
                    have BK194 := n1_
                    have BK195 := n2_
                    have BK196 := n3_
                    have HB := n4_
                    clear n0_ n1_ n2_ n3_ n4_
                    have p198 : 0 ≤ (x10_1 : Int) := of_decide_eq_true (by first | (with_reducible assumption) | assumption)
                    have q198 : x10_1 < (l1.length : Int) := of_decide_eq_true (by first | (with_reducible assumption) | assumption)
                    obtain ⟨ad198, e198, hx198_0, hx198_1, hx198_2, hx198_3⟩ := at_T28 HR1.out x10_1 p198 q198
                    have hw198_3 := hx198_3
                    have hw198_2 := hx198_2
                    have hw198_1 := hx198_1
                    have hw198_0 := hx198_0
                    cases e198
                    replace hx198_0 := (HB.out.cell (World.block_lt_of_cell? w _ hx198_0)).trans hx198_0
                    replace hx198_1 := (HB.out.cell (World.block_lt_of_cell? w _ hx198_1)).trans hx198_1
                    replace hx198_2 := (HB.out.cell (World.block_lt_of_cell? w _ hx198_2)).trans hx198_2
                    replace hx198_3 := (HB.out.cell (World.block_lt_of_cell? w _ hx198_3)).trans hx198_3
                    replace p198 := eq_true p198
                    replace q198 := eq_true q198
                    refine start_ (n := 7) (S := fun w' => w'.cell? ⟨gb194, 0, none⟩ = some (.string a0_0) ∧ w'.cell? ⟨gb194, 1, none⟩ = some (.int .i64 a0_1) ∧ w'.cell? ⟨gb194, 2, none⟩ = some (.bool a0_2) ∧ w'.cell? (ad198.add ((x10_1).toNat * 4)) = some (.int .i64 ((rd_T28 l1 x10_1).f0)) ∧ w'.cell? ⟨(ad198.add ((x10_1).toNat * 4)).block, (ad198.add ((x10_1).toNat * 4)).off + 1, none⟩ = some (.int .i64 ((rd_T28 l1 x10_1).f1)) ∧ w'.cell? ⟨(ad198.add ((x10_1).toNat * 4)).block, (ad198.add ((x10_1).toNat * 4)).off + 2, none⟩ = some (.float .f64 ((rd_T28 l1 x10_1).f2)) ∧ w'.cell? ⟨(ad198.add ((x10_1).toNat * 4)).block, (ad198.add ((x10_1).toNat * 4)).off + 3, none⟩ = some (.string ((rd_T28 l1 x10_1).f3))) (ds := []) #[false, false, false, false, false, false, false] (by kernel_rfl) rfl rfl ⟨(blk_cell BK194.out 0).trans rfl, (blk_cell BK194.out 1).trans rfl, (blk_cell BK194.out 2).trans rfl, ((HB.out.cell (World.block_lt_of_cell? w _ hw198_0)).trans hw198_0), ((HB.out.cell (World.block_lt_of_cell? w _ hw198_1)).trans hw198_1), ((HB.out.cell (World.block_lt_of_cell? w _ hw198_2)).trans hw198_2), ((HB.out.cell (World.block_lt_of_cell? w _ hw198_3)).trans hw198_3)⟩ (fun hHeld => ?_)
                    generalize wr.drew = w36 at HO_9 BK194 BK195 BK196 HB hx198_0 hx198_1 hx198_2 hx198_3 hHeld ⊢
                    refine pureP #[false, true, false, false, false, false, false] (by kernel_rfl) (i := 1) (N := some 29) ?_
                    refine pureP #[false, true, true, false, false, false, false] (by kernel_rfl) (i := 2) (N := some 30) ?_
                    refine pureP #[false, true, true, true, false, false, false] (by kernel_rfl) (i := 3) (N := some 31) ?_
                    refine takeP #[true, true, true, true, false, false, false] (by kernel_rfl) hHeld (i := 0) (N := some 28) ?_
                    refine takeP #[true, true, true, true, true, false, false] (by kernel_rfl) hHeld (i := 4) (N := some 32) ?_
                    refine one_ (i := 5) (N := some 33) #[true, true, true, true, true, true, false] rfl rfl (by kernel_rfl) (by decide) (fun K hK => ?_)
                    refine goes_ Try.func45 (by kernel_rfl) rfl #[.agg #[.string a0_0, .int .i64 a0_1, .bool a0_2], .agg #[.int .i64 ((rd_T28 l1 x10_1).f0), .int .i64 ((rd_T28 l1 x10_1).f1), .float .f64 ((rd_T28 l1 x10_1).f2), .string ((rd_T28 l1 x10_1).f3)]] (by rfl) rfl rfl (by (try simp only [List.map_toArray, List.map_cons, List.map_nil]); first | done | rfl | (simp only [List.length_drop, List.length_take]; rfl)) ?_
                    with_reducible refine (colonnaderef05_Fits.calls k1 a0_0 a0_1 a0_2 ((rd_T28 l1 x10_1).f0) ((rd_T28 l1 x10_1).f1) ((rd_T28 l1 x10_1).f2) ((rd_T28 l1 x10_1).f3) true _ A26.out).mono ?_
                    rintro e w37 ⟨rfl, hb⟩
                    refine ⟨_, rfl, ?_⟩
                    have n0_ := Aside0.mk (Kd.R_below (row0 HO_9) hb)
                    have n1_ := blkS BK194 hb
                    have n2_ := blkS BK195 hb
                    have n3_ := blkS BK196 hb
                    have n4_ := Aside0.mk (below_step bel0 hb)
                    clear HO_9
                    clear BK194
                    clear BK195
                    clear BK196
                    clear HB
                    have HO_9 := n0_
                    have BK194 := n1_
                    have BK195 := n2_
                    have BK196 := n3_
                    have HB := n4_
                    clear n0_ n1_ n2_ n3_ n4_
                    (try clear hb)
                    (try clear hb2)
                    (try clear hk)
                    (try clear hi)
                    refine hK.out _ _ ⟨(blk_cell BK194.out 0).trans rfl, (blk_cell BK194.out 1).trans rfl, (blk_cell BK194.out 2).trans rfl, ((HB.out.cell (World.block_lt_of_cell? w _ hw198_0)).trans hw198_0), ((HB.out.cell (World.block_lt_of_cell? w _ hw198_1)).trans hw198_1), ((HB.out.cell (World.block_lt_of_cell? w _ hw198_2)).trans hw198_2), ((HB.out.cell (World.block_lt_of_cell? w _ hw198_3)).trans hw198_3)⟩ (fun hHeld => ?_)
                    clear hK K
                    refine norm_ (a' := ?_) ?_ ?_
                    rotate_left
                    · show Act.put _ (some 33) _ = _
                      simp only [Act.put, List.setIfInBounds_toArray, List.set_cons_zero, List.set_cons_succ, i64_w, i32_w]
                      rfl
                    refine pureP #[true, true, true, true, true, true, true] (by kernel_rfl) (i := 6) (N := some 11) ?_
                    refine done_ (by kernel_rfl) ?_
                    have p200 : 0 ≤ (x10_1 : Int) := of_decide_eq_true (by first | (with_reducible assumption) | assumption)
                    have q200 : x10_1 < (l1.length : Int) := of_decide_eq_true (by first | (with_reducible assumption) | assumption)
                    obtain ⟨ad200, e200, hx200_0, hx200_1, hx200_2, hx200_3⟩ := at_T28 HR1.out x10_1 p200 q200
                    obtain rfl : ad198 = ad200 := (by injection e200)
                    replace hx200_0 := (HB.out.cell (World.block_lt_of_cell? w _ hx200_0)).trans hx200_0
                    replace hx200_1 := (HB.out.cell (World.block_lt_of_cell? w _ hx200_1)).trans hx200_1
                    replace hx200_2 := (HB.out.cell (World.block_lt_of_cell? w _ hx200_2)).trans hx200_2
                    replace hx200_3 := (HB.out.cell (World.block_lt_of_cell? w _ hx200_3)).trans hx200_3
                    replace p200 := eq_true p200
                    replace q200 := eq_true q200
                    have p201 : 0 ≤ (x10_1 : Int) := of_decide_eq_true (by first | (with_reducible assumption) | assumption)
                    have q201 : x10_1 < (l1.length : Int) := of_decide_eq_true (by first | (with_reducible assumption) | assumption)
                    obtain ⟨ad201, e201, hx201_0, hx201_1, hx201_2, hx201_3⟩ := at_T28 HR1.out x10_1 p201 q201
                    obtain rfl : ad198 = ad201 := (by injection e201)
                    replace hx201_0 := (HB.out.cell (World.block_lt_of_cell? w _ hx201_0)).trans hx201_0
                    replace hx201_1 := (HB.out.cell (World.block_lt_of_cell? w _ hx201_1)).trans hx201_1
                    replace hx201_2 := (HB.out.cell (World.block_lt_of_cell? w _ hx201_2)).trans hx201_2
                    replace hx201_3 := (HB.out.cell (World.block_lt_of_cell? w _ hx201_3)).trans hx201_3
                    replace p201 := eq_true p201
                    replace q201 := eq_true q201
                    go_upto_region 16 with (first | ((with_reducible refine gate_builtin (b := .append) (xs := #[.tmp 47, .tmp 52]) rfl ?_); at_builtin; refine Kd.R_append k28 (w0 := w) w.heap.size rfl (.tmp 47) (.tmp 52) 24 28 (.agg #[(.int .i64 0), (.int .i64 0), (.float .f64 0), (.string ⟨#[]⟩)]) 40 rfl Try.underlying24 info28 rfl (by decide) (by omega) u9 x9_1 (⟨(rd_T28 l1 x10_1).f0, (rd_T28 l1 x10_1).f1, (rd_T28 l1 x10_1).f2, (rd_T28 l1 x10_1).f3⟩ : S28) [.int .i64 ((rd_T28 l1 x10_1).f0), .int .i64 ((rd_T28 l1 x10_1).f1), .float .f64 ((rd_T28 l1 x10_1).f2), .string ((rd_T28 l1 x10_1).f3)] (fun _ => True) (fun _ => False) rfl rfl ?aP (fun _ hk => hk.elim) ?aF ?aO ?aB ?aS ?aL ?_; (case aP => exact k28_mkM _ _ _ (⟨(rd_T28 l1 x10_1).f0, (rd_T28 l1 x10_1).f1, (rd_T28 l1 x10_1).f2, (rd_T28 l1 x10_1).f3⟩ : S28)); (case aB => exact bel0); (case aF => exact (fun _ _ => trivial)); (case aO => exact (row0 HO_9)); (case aS => exact (below_size bel0)); (case aL => have := LMc34.out; omega); intro v203 w38 ho hb hg hat; rw [← Ny202.out] at ho; have n0_ := Aside0.mk (blk_grown (g := gb194) (o := .cells #[.string a0_0, .int .i64 a0_1, .bool a0_2] 23 (0, 0)) (blk0 BK194) hg (Kd.R_ne HO_9.out BK194.out (by decide))); have n1_ := Aside0.mk (blk_grown (g := gb195) (o := .cells #[.int .i64 x196000_1, .int .i64 x196001_1, .int .i64 x196002_1, .float .f64 x196003_1, .string x196004_1, .int .i64 x196005_1, .int .i64 x196006_1, .float .f64 x196007_1, .string x196008_1, .slice none 0 0] 31 (0, 0)) (blk0 BK195) hg (Kd.R_ne HO_9.out BK195.out (by decide))); have n2_ := Aside0.mk (blk_grown (g := gb196) (o := .cells #[.int .i64 x197000_1, .int .i64 x197001_1, .int .i64 x197002_1, .float .f64 x197003_1, .string x197004_1, .int .i64 x197005_1, .int .i64 x197006_1, .float .f64 x197007_1, .string x197008_1, .slice none 0 0] 31 (0, 0)) (blk0 BK196) hg (Kd.R_ne HO_9.out BK196.out (by decide))); have n3_ := Aside0.mk (hb); have n4_ := Aside0.mk (ho); clear BK194; clear BK195; clear BK196; clear HB; clear HO_9; have BK194 := n0_; have BK195 := n1_; have BK196 := n2_; have HB := n3_; have HO204 := n4_; clear n0_ n1_ n2_ n3_ n4_; clear ho hb hg hat))
                    (try simp only [Act.put, List.setIfInBounds_toArray, List.set_cons_zero, List.set_cons_succ])
                    go_cut [66] (fun v66 wc => ∃ (kq : Nat) (x66_34 : Bool), v66 = .bool x66_34 ∧ Aside0 (colonnaderef14_Of.j1 kq l1 a2 y202 x10_1 x66_34 a0_0 a0_1 a0_2 x197000_1 x197001_1 x197002_1 x197003_1 x197004_1 x197005_1 x197006_1 x197007_1 x197008_1 = some (r1, r2, r3, r4, r5, r6, r7, r8, r9, r10, r11)) ∧ Aside0 (kq ≤ k1) ∧ Aside0 (Kd.R k28 28 wc w.heap.size (fun _ => True) v203 y202) ∧ Aside0 (wc.heap[gb194]? = some (.cells #[.string a0_0, .int .i64 a0_1, .bool a0_2] 23 (0, 0))) ∧ Aside0 (wc.heap[gb195]? = some (.cells #[.int .i64 x196000_1, .int .i64 x196001_1, .int .i64 x196002_1, .float .f64 x196003_1, .string x196004_1, .int .i64 x196005_1, .int .i64 x196006_1, .float .f64 x196007_1, .string x196008_1, (.slice none 0 0)] 31 (0, 0))) ∧ Aside0 (wc.heap[gb196]? = some (.cells #[.int .i64 x197000_1, .int .i64 x197001_1, .int .i64 x197002_1, .float .f64 x197003_1, .string x197004_1, .int .i64 x197005_1, .int .i64 x197006_1, .float .f64 x197007_1, .string x197008_1, (.slice none 0 0)] 31 (0, 0))) ∧ Aside0 (Below w.heap.size w wc))
                    case first =>
                      have H := HC35.out
                      clear HC35
                      by_cases c39 : (y202.length : Int) = 1
                      · rw [if_pos c39] at H
                        have c39b0 : ((y202.length : Int) == 1) = true := beq_iff_eq.mpr c39
                        have c39b1 : ((y202.length : Int) != 1) = false := bne_eq_false_iff_eq.mpr c39
                        clear c39
                        (first | rw [c39b0] | (simp only [i64_w, i32_w]; rw [c39b0]) | skip)
                        have H' := Aside0.mk H
                        clear H
                        try go_wp2
                        have n0_ := Aside0.mk (Kd.R_drew HO204.out)
                        have n1_ := Aside0.mk (blk_drew BK194.out)
                        have n2_ := Aside0.mk (blk_drew BK195.out)
                        have n3_ := Aside0.mk (blk_drew BK196.out)
                        have n4_ := Aside0.mk (below_drew1 HB.out)
                        clear HO204
                        clear BK194
                        clear BK195
                        clear BK196
                        clear HB
                        have HO204 := n0_
                        have BK194 := n1_
                        have BK195 := n2_
                        have BK196 := n3_
                        have HB := n4_
                        clear n0_ n1_ n2_ n3_ n4_
                        obtain ⟨Ao41, co41, eo41⟩ := Kd.R_slice HO204.out
                        (first | subst eo41 | (injection eo41 with f1_ f2_ f3_; have f4_ := f1_.symm; have f5_ := f3_.symm; clear f1_ f2_ f3_; subst f4_; subst f5_))
                        refine start_ (n := 13) (S := fun w' => True) (ds := []) #[false, false, false, false, false, false, false, false, false, false, false, false, false] (by kernel_rfl) rfl rfl trivial (fun hHeld => ?_); refine with_tabW colonnaderef14_Of.tab16 colonnaderef14_Of.bits16 (fun HT_ HW_ => ?_)
                        generalize w38.drew = w40 at HO204 BK194 BK195 BK196 HB hHeld ⊢
                        refine pureP #[true, false, false, false, false, false, false, false, false, false, false, false, false] (any_of HT_.out (by kernel_rfl)) (i := 0) (N := some 54) ?_
                        refine pureP #[true, true, false, false, false, false, false, false, false, false, false, false, false] (any_of HT_.out (by kernel_rfl)) (i := 1) (N := some 55) ?_
                        refine pureP #[true, true, true, false, false, false, false, false, false, false, false, false, false] (any_of HT_.out (by kernel_rfl)) (i := 2) (N := some 56) ?_
                        refine pureP #[true, true, true, true, false, false, false, false, false, false, false, false, false] (any_of HT_.out (by kernel_rfl)) (i := 3) (N := some 57) ?_
                        refine pureO #[true, true, true, true, true, false, false, false, false, false, false, false, false] (any_of HT_.out (by kernel_rfl)) (i := 4) (N := some 58) ?_
                        refine pureO #[true, true, true, true, true, true, false, false, false, false, false, false, false] (any_of HT_.out (by kernel_rfl)) (i := 5) (N := some 59) ?_
                        refine pureO #[true, true, true, true, true, true, true, false, false, false, false, false, false] (any_of HT_.out (by kernel_rfl)) (i := 6) (N := some 60) ?_
                        refine pureO #[true, true, true, true, true, true, true, true, false, false, false, false, false] (any_of HT_.out (by kernel_rfl)) (i := 7) (N := some 61) ?_
                        refine pureO #[true, true, true, true, true, true, true, true, true, false, false, false, false] (any_of HT_.out (by kernel_rfl)) (i := 8) (N := some 62) ?_
                        refine pureO #[true, true, true, true, true, true, true, true, true, true, false, false, false] (any_of HT_.out (by kernel_rfl)) (i := 9) (N := some 63) ?_
                        refine pureO #[true, true, true, true, true, true, true, true, true, true, true, false, false] (any_of HT_.out (by kernel_rfl)) (i := 10) (N := some 64) ?_
                        refine pureO #[true, true, true, true, true, true, true, true, true, true, true, true, false] (any_of HT_.out (by kernel_rfl)) (i := 11) (N := some 65) ?_
                        refine pureP #[true, true, true, true, true, true, true, true, true, true, true, true, true] (any_of HT_.out (by kernel_rfl)) (i := 12) (N := some 66) ?_
                        refine done_ (done_of HT_.out (by kernel_rfl)) ?_
                        try go_wp2
                        go_meet
                        case rel => exact ⟨_, (true), (by first | rfl | (simp; done) | (simp [*]; done)), H', ⟨by have := HK1.out; first | omega | exact Nat.le_refl _⟩, ⟨by (with_reducible repeat (first | apply Kd.R_alloc | apply Kd.R_drewN | apply Kd.R_drew)); exact HO204.out⟩, ⟨by (with_reducible repeat (first | refine blk_drewN ?_ _ | refine blk_drew ?_ | refine blk_alloc ?_ _)); exact BK194.out⟩, ⟨by (with_reducible repeat (first | refine blk_drewN ?_ _ | refine blk_drew ?_ | refine blk_alloc ?_ _)); exact BK195.out⟩, ⟨by (with_reducible repeat (first | refine blk_drewN ?_ _ | refine blk_drew ?_ | refine blk_alloc ?_ _)); exact BK196.out⟩, ⟨bel0⟩⟩
                      · rw [if_neg c39] at H
                        have c39b0 : ((y202.length : Int) == 1) = false := beq_eq_false_iff_ne.mpr c39
                        have c39b1 : ((y202.length : Int) != 1) = true := bne_iff_ne.mpr c39
                        (first | rw [c39b0] | (simp only [i64_w, i32_w]; rw [c39b0]) | skip)
                        replace H := Option.bind_eq_some_iff.mp H
                        obtain ⟨t206, A420, H⟩ := H
                        (try dsimp only at H)
                        have A42 := Aside0.mk A420
                        clear A420
                        have H' := Aside0.mk H
                        clear H
                        try go_wp2
                        have n0_ := Aside0.mk (Kd.R_drew HO204.out)
                        have n1_ := Aside0.mk (blk_drew BK194.out)
                        have n2_ := Aside0.mk (blk_drew BK195.out)
                        have n3_ := Aside0.mk (blk_drew BK196.out)
                        have n4_ := Aside0.mk (below_drew1 HB.out)
                        clear HO204
                        clear BK194
                        clear BK195
                        clear BK196
                        clear HB
                        have HO204 := n0_
                        have BK194 := n1_
                        have BK195 := n2_
                        have BK196 := n3_
                        have HB := n4_
                        clear n0_ n1_ n2_ n3_ n4_
                        obtain ⟨Ao44, co44, eo44⟩ := Kd.R_slice HO204.out
                        (first | subst eo44 | (injection eo44 with f1_ f2_ f3_; have f4_ := f1_.symm; have f5_ := f3_.symm; clear f1_ f2_ f3_; subst f4_; subst f5_))
                        have p205 : 0 ≤ (x10_1 : Int) := of_decide_eq_true (by first | (with_reducible assumption) | assumption)
                        have q205 : x10_1 < (l1.length : Int) := of_decide_eq_true (by first | (with_reducible assumption) | assumption)
                        obtain ⟨ad205, e205, hx205_0, hx205_1, hx205_2, hx205_3⟩ := at_T28 HR1.out x10_1 p205 q205
                        have hw205_3 := hx205_3
                        have hw205_2 := hx205_2
                        have hw205_1 := hx205_1
                        have hw205_0 := hx205_0
                        obtain rfl : ad198 = ad205 := (by injection e205)
                        replace hx205_0 := (HB.out.cell (World.block_lt_of_cell? w _ hx205_0)).trans hx205_0
                        replace hx205_1 := (HB.out.cell (World.block_lt_of_cell? w _ hx205_1)).trans hx205_1
                        replace hx205_2 := (HB.out.cell (World.block_lt_of_cell? w _ hx205_2)).trans hx205_2
                        replace hx205_3 := (HB.out.cell (World.block_lt_of_cell? w _ hx205_3)).trans hx205_3
                        replace p205 := eq_true p205
                        replace q205 := eq_true q205
                        refine start_ (n := 13) (S := fun w' => w'.cell? ⟨gb196, 0, none⟩ = some (.int .i64 x197000_1) ∧ w'.cell? ⟨gb196, 1, none⟩ = some (.int .i64 x197001_1) ∧ w'.cell? ⟨gb196, 2, none⟩ = some (.int .i64 x197002_1) ∧ w'.cell? ⟨gb196, 3, none⟩ = some (.float .f64 x197003_1) ∧ w'.cell? ⟨gb196, 4, none⟩ = some (.string x197004_1) ∧ w'.cell? ⟨gb196, 5, none⟩ = some (.int .i64 x197005_1) ∧ w'.cell? ⟨gb196, 6, none⟩ = some (.int .i64 x197006_1) ∧ w'.cell? ⟨gb196, 7, none⟩ = some (.float .f64 x197007_1) ∧ w'.cell? ⟨gb196, 8, none⟩ = some (.string x197008_1) ∧ w'.cell? ⟨gb196, 9, none⟩ = some (.slice none 0 0) ∧ w'.cell? (ad198.add ((x10_1).toNat * 4)) = some (.int .i64 ((rd_T28 l1 x10_1).f0)) ∧ w'.cell? ⟨(ad198.add ((x10_1).toNat * 4)).block, (ad198.add ((x10_1).toNat * 4)).off + 1, none⟩ = some (.int .i64 ((rd_T28 l1 x10_1).f1)) ∧ w'.cell? ⟨(ad198.add ((x10_1).toNat * 4)).block, (ad198.add ((x10_1).toNat * 4)).off + 2, none⟩ = some (.float .f64 ((rd_T28 l1 x10_1).f2)) ∧ w'.cell? ⟨(ad198.add ((x10_1).toNat * 4)).block, (ad198.add ((x10_1).toNat * 4)).off + 3, none⟩ = some (.string ((rd_T28 l1 x10_1).f3))) (ds := []) #[false, false, false, false, false, false, false, false, false, false, false, false, false] (by kernel_rfl) rfl rfl ⟨(blk_cell BK196.out 0).trans rfl, (blk_cell BK196.out 1).trans rfl, (blk_cell BK196.out 2).trans rfl, (blk_cell BK196.out 3).trans rfl, (blk_cell BK196.out 4).trans rfl, (blk_cell BK196.out 5).trans rfl, (blk_cell BK196.out 6).trans rfl, (blk_cell BK196.out 7).trans rfl, (blk_cell BK196.out 8).trans rfl, (blk_cell BK196.out 9).trans rfl, ((HB.out.cell (World.block_lt_of_cell? w _ hw205_0)).trans hw205_0), ((HB.out.cell (World.block_lt_of_cell? w _ hw205_1)).trans hw205_1), ((HB.out.cell (World.block_lt_of_cell? w _ hw205_2)).trans hw205_2), ((HB.out.cell (World.block_lt_of_cell? w _ hw205_3)).trans hw205_3)⟩ (fun hHeld => ?_); refine with_tabW colonnaderef14_Of.tab16 colonnaderef14_Of.bits16 (fun HT_ HW_ => ?_)
                        generalize w38.drew = w43 at HO204 BK194 BK195 BK196 HB hx205_0 hx205_1 hx205_2 hx205_3 hHeld ⊢
                        refine pureP #[true, false, false, false, false, false, false, false, false, false, false, false, false] (any_of HT_.out (by kernel_rfl)) (i := 0) (N := some 54) ?_
                        refine pureP #[true, true, false, false, false, false, false, false, false, false, false, false, false] (any_of HT_.out (by kernel_rfl)) (i := 1) (N := some 55) ?_
                        refine pureP #[true, true, true, false, false, false, false, false, false, false, false, false, false] (any_of HT_.out (by kernel_rfl)) (i := 2) (N := some 56) ?_
                        refine pureP #[true, true, true, true, false, false, false, false, false, false, false, false, false] (any_of HT_.out (by kernel_rfl)) (i := 3) (N := some 57) ?_
                        refine pureP #[true, true, true, true, true, false, false, false, false, false, false, false, false] (any_of HT_.out (by kernel_rfl)) (i := 4) (N := some 58) ?_
                        refine pureP #[true, true, true, true, true, true, false, false, false, false, false, false, false] (any_of HT_.out (by kernel_rfl)) (i := 5) (N := some 59) ?_
                        refine pureP #[true, true, true, true, true, true, true, false, false, false, false, false, false] (any_of HT_.out (by kernel_rfl)) (i := 6) (N := some 60) ?_
                        refine pureP #[true, true, true, true, true, true, true, false, true, false, false, false, false] (any_of HT_.out (by kernel_rfl)) (i := 8) (N := some 62) ?_
                        refine takeP #[true, true, true, true, true, true, true, true, true, false, false, false, false] (take_ofW HT_.out HW_.out (by kernel_rfl)) hHeld (i := 7) (N := some 61) ?_
                        refine takeP #[true, true, true, true, true, true, true, true, true, true, false, false, false] (take_ofW HT_.out HW_.out (by kernel_rfl)) hHeld (i := 9) (N := some 63) ?_
                        refine one_ (i := 10) (N := some 64) #[true, true, true, true, true, true, true, true, true, true, true, false, false] rfl rfl (one_of HT_.out (by kernel_rfl)) (by decide) (fun K hK => ?_)
                        refine goes_ Try.func46 (by kernel_rfl) rfl #[.agg #[.int .i64 ((rd_T28 l1 x10_1).f0), .int .i64 ((rd_T28 l1 x10_1).f1), .float .f64 ((rd_T28 l1 x10_1).f2), .string ((rd_T28 l1 x10_1).f3)], .agg #[.int .i64 x197001_1, .int .i64 x197002_1, .float .f64 x197003_1, .string x197004_1]] (by rfl) rfl rfl (by (try simp only [List.map_toArray, List.map_cons, List.map_nil]); first | done | rfl | (simp only [List.length_drop, List.length_take]; rfl)) ?_
                        with_reducible refine (colonnaderef05_Compare.calls k1 ((rd_T28 l1 x10_1).f0) ((rd_T28 l1 x10_1).f1) ((rd_T28 l1 x10_1).f2) ((rd_T28 l1 x10_1).f3) x197001_1 x197002_1 x197003_1 x197004_1 t206 _ A42.out).mono ?_
                        rintro e w45 ⟨rfl, hb⟩
                        refine ⟨_, rfl, ?_⟩
                        have n0_ := Aside0.mk (Kd.R_below (row0 HO204) hb)
                        have n1_ := blkS BK194 hb
                        have n2_ := blkS BK195 hb
                        have n3_ := blkS BK196 hb
                        have n4_ := Aside0.mk (below_step bel0 hb)
                        clear HO204
                        clear BK194
                        clear BK195
                        clear BK196
                        clear HB
                        have HO204 := n0_
                        have BK194 := n1_
                        have BK195 := n2_
                        have BK196 := n3_
                        have HB := n4_
                        clear n0_ n1_ n2_ n3_ n4_
                        (try clear hb)
                        (try clear hb2)
                        (try clear hk)
                        (try clear hi)
                        refine hK.out _ _ ⟨(blk_cell BK196.out 0).trans rfl, (blk_cell BK196.out 1).trans rfl, (blk_cell BK196.out 2).trans rfl, (blk_cell BK196.out 3).trans rfl, (blk_cell BK196.out 4).trans rfl, (blk_cell BK196.out 5).trans rfl, (blk_cell BK196.out 6).trans rfl, (blk_cell BK196.out 7).trans rfl, (blk_cell BK196.out 8).trans rfl, (blk_cell BK196.out 9).trans rfl, ((HB.out.cell (World.block_lt_of_cell? w _ hw205_0)).trans hw205_0), ((HB.out.cell (World.block_lt_of_cell? w _ hw205_1)).trans hw205_1), ((HB.out.cell (World.block_lt_of_cell? w _ hw205_2)).trans hw205_2), ((HB.out.cell (World.block_lt_of_cell? w _ hw205_3)).trans hw205_3)⟩ (fun hHeld => ?_)
                        clear hK K
                        refine norm_ (a' := ?_) ?_ ?_
                        rotate_left
                        · show Act.put _ (some 64) _ = _
                          simp only [Act.put, List.setIfInBounds_toArray, List.set_cons_zero, List.set_cons_succ, i64_w, i32_w]
                          rfl
                        refine pureP #[true, true, true, true, true, true, true, true, true, true, true, true, false] (any_of HT_.out (by kernel_rfl)) (i := 11) (N := some 65) ?_
                        refine pureP #[true, true, true, true, true, true, true, true, true, true, true, true, true] (any_of HT_.out (by kernel_rfl)) (i := 12) (N := some 66) ?_
                        refine done_ (done_of HT_.out (by kernel_rfl)) ?_
                        try go_wp2
                        go_meet
                        case rel => exact ⟨_, (decide (t206 < 0)), (by first | rfl | (simp; done) | (simp [*]; done)), H', ⟨by have := HK1.out; first | omega | exact Nat.le_refl _⟩, ⟨by (with_reducible repeat (first | apply Kd.R_alloc | apply Kd.R_drewN | apply Kd.R_drew)); exact HO204.out⟩, ⟨by (with_reducible repeat (first | refine blk_drewN ?_ _ | refine blk_drew ?_ | refine blk_alloc ?_ _)); exact BK194.out⟩, ⟨by (with_reducible repeat (first | refine blk_drewN ?_ _ | refine blk_drew ?_ | refine blk_alloc ?_ _)); exact BK195.out⟩, ⟨by (with_reducible repeat (first | refine blk_drewN ?_ _ | refine blk_drew ?_ | refine blk_alloc ?_ _)); exact BK196.out⟩, ⟨bel0⟩⟩
                    case rest =>
                      clear HC35
                      try clear p1
                      try clear q1
                      try clear hx1
                      try clear c2
                      try clear p2
                      try clear q2
                      try clear hx2
                      try clear c3
                      try clear c4
                      try clear p6
                      try clear p19
                      try clear q19
                      try clear hx19
                      try clear p20
                      try clear q20
                      try clear hx20
                      try clear c28
                      try clear c28b0
                      try clear c28b1
                      try clear c31
                      try clear c32
                      try clear c34
                      try clear c39
                      try clear c39b0
                      try clear c39b1
                      try clear c45
                      try clear hcz33_0
                      try clear hcz33_1
                      try clear hcz33_2
                      try clear hcz33_3
                      try clear hcz33_4
                      try clear hcz33_5
                      try clear hcz33_6
                      try clear hcz33_7
                      try clear hcz33_8
                      try clear hcz33_9
                      try clear hfz33_0
                      try clear hfz33_1
                      try clear hfz33_2
                      try clear hfz33_3
                      try clear hfz33_4
                      try clear hfz33_5
                      try clear hfz33_6
                      try clear hfz33_7
                      try clear hfz33_8
                      try clear hfz33_9
                      try clear hx198_0
                      try clear hx198_1
                      try clear hx198_2
                      try clear hx198_3
                      try clear hx200_0
                      try clear hx200_1
                      try clear hx200_2
                      try clear hx200_3
                      try clear hx201_0
                      try clear hx201_1
                      try clear hx201_2
                      try clear hx201_3
                      try clear hx205_0
                      try clear hx205_1
                      try clear hx205_2
                      try clear hx205_3
                      try clear p198
                      try clear p200
                      try clear p201
                      try clear p205
                      try clear q198
                      try clear q200
                      try clear q201
                      try clear q205
                      obtain ⟨kq, x66_34, rfl, HA, HJ34, HO_9, BK194, BK195, BK196, HB⟩ := hcut
                      cases kq with
                      | zero => exact absurd HA.out (by simp [colonnaderef14_Of.j1])
                      | succ kj34 =>
                        have H := HA.out
                        clear HA
                        simp only [colonnaderef14_Of.j1] at H
                        by_cases c46 : x66_34 = true
                        · subst c46
                          rw [if_pos rfl] at H
                          by_cases c47 : 0 ≤ x10_1
                          · rw [if_pos c47] at H
                            have c47b0 : decide (0 ≤ x10_1) = true := decide_eq_true c47
                            clear c47
                            by_cases c48 : x10_1 < (l1.length : Int)
                            · rw [if_pos c48] at H
                              have c48b0 : decide (x10_1 < (l1.length : Int)) = true := decide_eq_true c48
                              clear c48
                              by_cases c49 : (y202.length : Int) = 1
                              · rw [if_pos c49] at H
                                have c49b0 : ((y202.length : Int) == 1) = true := beq_iff_eq.mpr c49
                                have c49b1 : ((y202.length : Int) != 1) = false := bne_eq_false_iff_eq.mpr c49
                                clear c49
                                have H' := Aside0.mk H
                                clear H
                                have p207 : 0 ≤ (x10_1 : Int) := of_decide_eq_true (by first | (with_reducible assumption) | assumption)
                                have q207 : x10_1 < (l1.length : Int) := of_decide_eq_true (by first | (with_reducible assumption) | assumption)
                                obtain ⟨ad207, e207, hx207_0, hx207_1, hx207_2, hx207_3⟩ := at_T28 HR1.out x10_1 p207 q207
                                obtain rfl : ad198 = ad207 := (by injection e207)
                                replace hx207_0 := (HB.out.cell (World.block_lt_of_cell? w _ hx207_0)).trans hx207_0
                                replace hx207_1 := (HB.out.cell (World.block_lt_of_cell? w _ hx207_1)).trans hx207_1
                                replace hx207_2 := (HB.out.cell (World.block_lt_of_cell? w _ hx207_2)).trans hx207_2
                                replace hx207_3 := (HB.out.cell (World.block_lt_of_cell? w _ hx207_3)).trans hx207_3
                                replace p207 := eq_true p207
                                replace q207 := eq_true q207
                                have hnb50 := NB196_194.out
                                have hnc50 := NB194_196.out
                                have hnb51 := NB196_195.out
                                have hnc51 := NB195_196.out
                                obtain ⟨hcz52_0, hcz52_1, hcz52_2, hcz52_3, hcz52_4, hcz52_5, hcz52_6, hcz52_7, hcz52_8, hcz52_9⟩ := cells_10 BK196.out
                                obtain ⟨hfz52_0, hfz52_1, hfz52_2, hfz52_3, hfz52_4, hfz52_5, hfz52_6, hfz52_7, hfz52_8, hfz52_9⟩ := froz_10 BK196.out
                                try go_wp2
                                have n0_ : Aside0 (Kd.R k28 28 ((((wc.setCell ⟨gb196, 1, none⟩ (.int .i64 ((rd_T28 l1 x10_1).f0))).setCell ⟨gb196, 2, none⟩ (.int .i64 ((rd_T28 l1 x10_1).f1))).setCell ⟨gb196, 3, none⟩ (.float .f64 ((rd_T28 l1 x10_1).f2))).setCell ⟨gb196, 4, none⟩ (.string ((rd_T28 l1 x10_1).f3))) w.heap.size (fun _ => True) v203 y202) := ⟨by (with_reducible repeat (first | apply Kd.R_alloc | apply Kd.R_drewN | apply Kd.R_drew)); exact Kd.R_mono (Kd.R_far (p := ⟨gb196, 4, none⟩) (Kd.R_far (p := ⟨gb196, 3, none⟩) (Kd.R_far (p := ⟨gb196, 2, none⟩) (Kd.R_far (p := ⟨gb196, 1, none⟩) (Kd.R_types HO_9.out BK196.out (by decide)) (fun _ hk => hk.2) (.int .i64 ((rd_T28 l1 x10_1).f0))) (fun _ hk => hk.2) (.int .i64 ((rd_T28 l1 x10_1).f1))) (fun _ hk => hk.2) (.float .f64 ((rd_T28 l1 x10_1).f2))) (fun _ hk => hk.2) (.string ((rd_T28 l1 x10_1).f3))) (fun _ hk => trivial)⟩
                                have n1_ : Aside0 (((((wc.setCell ⟨gb196, 1, none⟩ (.int .i64 ((rd_T28 l1 x10_1).f0))).setCell ⟨gb196, 2, none⟩ (.int .i64 ((rd_T28 l1 x10_1).f1))).setCell ⟨gb196, 3, none⟩ (.float .f64 ((rd_T28 l1 x10_1).f2))).setCell ⟨gb196, 4, none⟩ (.string ((rd_T28 l1 x10_1).f3))).heap[gb194]? = some (.cells #[.string a0_0, .int .i64 a0_1, .bool a0_2] 23 (0, 0))) := ⟨by (with_reducible repeat (first | refine blk_drewN ?_ _ | refine blk_drew ?_ | refine blk_alloc ?_ _)); refine blk_far ?_ NB194_196.out _; (with_reducible repeat (first | refine blk_drewN ?_ _ | refine blk_drew ?_ | refine blk_alloc ?_ _)); refine blk_far ?_ NB194_196.out _; (with_reducible repeat (first | refine blk_drewN ?_ _ | refine blk_drew ?_ | refine blk_alloc ?_ _)); refine blk_far ?_ NB194_196.out _; (with_reducible repeat (first | refine blk_drewN ?_ _ | refine blk_drew ?_ | refine blk_alloc ?_ _)); refine blk_far ?_ NB194_196.out _; (with_reducible repeat (first | refine blk_drewN ?_ _ | refine blk_drew ?_ | refine blk_alloc ?_ _)); exact BK194.out⟩
                                have n2_ : Aside0 (((((wc.setCell ⟨gb196, 1, none⟩ (.int .i64 ((rd_T28 l1 x10_1).f0))).setCell ⟨gb196, 2, none⟩ (.int .i64 ((rd_T28 l1 x10_1).f1))).setCell ⟨gb196, 3, none⟩ (.float .f64 ((rd_T28 l1 x10_1).f2))).setCell ⟨gb196, 4, none⟩ (.string ((rd_T28 l1 x10_1).f3))).heap[gb195]? = some (.cells #[.int .i64 x196000_1, .int .i64 x196001_1, .int .i64 x196002_1, .float .f64 x196003_1, .string x196004_1, .int .i64 x196005_1, .int .i64 x196006_1, .float .f64 x196007_1, .string x196008_1, .slice none 0 0] 31 (0, 0))) := ⟨by (with_reducible repeat (first | refine blk_drewN ?_ _ | refine blk_drew ?_ | refine blk_alloc ?_ _)); refine blk_far ?_ NB195_196.out _; (with_reducible repeat (first | refine blk_drewN ?_ _ | refine blk_drew ?_ | refine blk_alloc ?_ _)); refine blk_far ?_ NB195_196.out _; (with_reducible repeat (first | refine blk_drewN ?_ _ | refine blk_drew ?_ | refine blk_alloc ?_ _)); refine blk_far ?_ NB195_196.out _; (with_reducible repeat (first | refine blk_drewN ?_ _ | refine blk_drew ?_ | refine blk_alloc ?_ _)); refine blk_far ?_ NB195_196.out _; (with_reducible repeat (first | refine blk_drewN ?_ _ | refine blk_drew ?_ | refine blk_alloc ?_ _)); exact BK195.out⟩
                                have n3_ : Aside0 (((((wc.setCell ⟨gb196, 1, none⟩ (.int .i64 ((rd_T28 l1 x10_1).f0))).setCell ⟨gb196, 2, none⟩ (.int .i64 ((rd_T28 l1 x10_1).f1))).setCell ⟨gb196, 3, none⟩ (.float .f64 ((rd_T28 l1 x10_1).f2))).setCell ⟨gb196, 4, none⟩ (.string ((rd_T28 l1 x10_1).f3))).heap[gb196]? = some (.cells #[.int .i64 x197000_1, .int .i64 ((rd_T28 l1 x10_1).f0), .int .i64 ((rd_T28 l1 x10_1).f1), .float .f64 ((rd_T28 l1 x10_1).f2), .string ((rd_T28 l1 x10_1).f3), .int .i64 x197005_1, .int .i64 x197006_1, .float .f64 x197007_1, .string x197008_1, .slice none 0 0] 31 (0, 0))) := ⟨by (with_reducible repeat (first | refine blk_drewN ?_ _ | refine blk_drew ?_ | refine blk_alloc ?_ _)); refine blk_put (cs := #[.int .i64 x197000_1, .int .i64 ((rd_T28 l1 x10_1).f0), .int .i64 ((rd_T28 l1 x10_1).f1), .float .f64 ((rd_T28 l1 x10_1).f2), .string x197004_1, .int .i64 x197005_1, .int .i64 x197006_1, .float .f64 x197007_1, .string x197008_1, .slice none 0 0]) ?_ 4 _ rfl; (with_reducible repeat (first | refine blk_drewN ?_ _ | refine blk_drew ?_ | refine blk_alloc ?_ _)); refine blk_put (cs := #[.int .i64 x197000_1, .int .i64 ((rd_T28 l1 x10_1).f0), .int .i64 ((rd_T28 l1 x10_1).f1), .float .f64 x197003_1, .string x197004_1, .int .i64 x197005_1, .int .i64 x197006_1, .float .f64 x197007_1, .string x197008_1, .slice none 0 0]) ?_ 3 _ rfl; (with_reducible repeat (first | refine blk_drewN ?_ _ | refine blk_drew ?_ | refine blk_alloc ?_ _)); refine blk_put (cs := #[.int .i64 x197000_1, .int .i64 ((rd_T28 l1 x10_1).f0), .int .i64 x197002_1, .float .f64 x197003_1, .string x197004_1, .int .i64 x197005_1, .int .i64 x197006_1, .float .f64 x197007_1, .string x197008_1, .slice none 0 0]) ?_ 2 _ rfl; (with_reducible repeat (first | refine blk_drewN ?_ _ | refine blk_drew ?_ | refine blk_alloc ?_ _)); refine blk_put (cs := #[.int .i64 x197000_1, .int .i64 x197001_1, .int .i64 x197002_1, .float .f64 x197003_1, .string x197004_1, .int .i64 x197005_1, .int .i64 x197006_1, .float .f64 x197007_1, .string x197008_1, .slice none 0 0]) ?_ 1 _ rfl; (with_reducible repeat (first | refine blk_drewN ?_ _ | refine blk_drew ?_ | refine blk_alloc ?_ _)); exact BK196.out⟩
                                have n4_ : Aside0 (Below w.heap.size w ((((wc.setCell ⟨gb196, 1, none⟩ (.int .i64 ((rd_T28 l1 x10_1).f0))).setCell ⟨gb196, 2, none⟩ (.int .i64 ((rd_T28 l1 x10_1).f1))).setCell ⟨gb196, 3, none⟩ (.float .f64 ((rd_T28 l1 x10_1).f2))).setCell ⟨gb196, 4, none⟩ (.string ((rd_T28 l1 x10_1).f3)))) := ⟨bel0⟩
                                (try clear HO_9)
                                (try clear BK194)
                                (try clear BK195)
                                (try clear BK196)
                                (try clear HB)
                                generalize ((((wc.setCell ⟨gb196, 1, none⟩ (.int .i64 ((rd_T28 l1 x10_1).f0))).setCell ⟨gb196, 2, none⟩ (.int .i64 ((rd_T28 l1 x10_1).f1))).setCell ⟨gb196, 3, none⟩ (.float .f64 ((rd_T28 l1 x10_1).f2))).setCell ⟨gb196, 4, none⟩ (.string ((rd_T28 l1 x10_1).f3))) = w53 at n0_ n1_ n2_ n3_ n4_ ⊢
                                have HO_9 := n0_
                                have BK194 := n1_
                                have BK195 := n2_
                                have BK196 := n3_
                                have HB := n4_
                                clear n0_ n1_ n2_ n3_ n4_
                                have n0_ := Aside0.mk (Kd.R_drew HO_9.out)
                                have n1_ := Aside0.mk (blk_drew BK194.out)
                                have n2_ := Aside0.mk (blk_drew BK195.out)
                                have n3_ := Aside0.mk (blk_drew BK196.out)
                                have n4_ := Aside0.mk (below_drew1 HB.out)
                                clear HO_9
                                clear BK194
                                clear BK195
                                clear BK196
                                clear HB
                                have HO_9 := n0_
                                have BK194 := n1_
                                have BK195 := n2_
                                have BK196 := n3_
                                have HB := n4_
                                clear n0_ n1_ n2_ n3_ n4_
                                obtain ⟨Ao55, co55, eo55⟩ := Kd.R_slice HO_9.out
                                (first | subst eo55 | (injection eo55 with f1_ f2_ f3_; have f4_ := f1_.symm; have f5_ := f3_.symm; clear f1_ f2_ f3_; subst f4_; subst f5_))
                                refine start_ (n := 13) (S := fun w' => True) (ds := []) #[false, false, false, false, false, false, false, false, false, false, false, false, false] (by kernel_rfl) rfl rfl trivial (fun hHeld => ?_); refine with_tabW colonnaderef14_Of.tab18 colonnaderef14_Of.bits18 (fun HT_ HW_ => ?_)
                                generalize w53.drew = w54 at HO_9 BK194 BK195 BK196 HB hHeld ⊢
                                refine pureP #[true, false, false, false, false, false, false, false, false, false, false, false, false] (any_of HT_.out (by kernel_rfl)) (i := 0) (N := some 72) ?_
                                refine pureP #[true, true, false, false, false, false, false, false, false, false, false, false, false] (any_of HT_.out (by kernel_rfl)) (i := 1) (N := some 73) ?_
                                refine pureP #[true, true, true, false, false, false, false, false, false, false, false, false, false] (any_of HT_.out (by kernel_rfl)) (i := 2) (N := some 74) ?_
                                refine pureP #[true, true, true, true, false, false, false, false, false, false, false, false, false] (any_of HT_.out (by kernel_rfl)) (i := 3) (N := some 75) ?_
                                refine pureO #[true, true, true, true, true, false, false, false, false, false, false, false, false] (any_of HT_.out (by kernel_rfl)) (i := 4) (N := some 76) ?_
                                refine pureO #[true, true, true, true, true, true, false, false, false, false, false, false, false] (any_of HT_.out (by kernel_rfl)) (i := 5) (N := some 77) ?_
                                refine pureO #[true, true, true, true, true, true, true, false, false, false, false, false, false] (any_of HT_.out (by kernel_rfl)) (i := 6) (N := some 78) ?_
                                refine pureO #[true, true, true, true, true, true, true, true, false, false, false, false, false] (any_of HT_.out (by kernel_rfl)) (i := 7) (N := some 79) ?_
                                refine pureO #[true, true, true, true, true, true, true, true, true, false, false, false, false] (any_of HT_.out (by kernel_rfl)) (i := 8) (N := some 80) ?_
                                refine pureO #[true, true, true, true, true, true, true, true, true, true, false, false, false] (any_of HT_.out (by kernel_rfl)) (i := 9) (N := some 81) ?_
                                refine pureO #[true, true, true, true, true, true, true, true, true, true, true, false, false] (any_of HT_.out (by kernel_rfl)) (i := 10) (N := some 82) ?_
                                refine pureO #[true, true, true, true, true, true, true, true, true, true, true, true, false] (any_of HT_.out (by kernel_rfl)) (i := 11) (N := some 83) ?_
                                refine pureP #[true, true, true, true, true, true, true, true, true, true, true, true, true] (any_of HT_.out (by kernel_rfl)) (i := 12) (N := some 84) ?_
                                refine done_ (done_of HT_.out (by kernel_rfl)) ?_
                                have p208 : 0 ≤ (x10_1 : Int) := of_decide_eq_true (by first | (with_reducible assumption) | assumption)
                                have q208 : x10_1 < (l1.length : Int) := of_decide_eq_true (by first | (with_reducible assumption) | assumption)
                                obtain ⟨ad208, e208, hx208_0, hx208_1, hx208_2, hx208_3⟩ := at_T28 HR1.out x10_1 p208 q208
                                obtain rfl : ad198 = ad208 := (by injection e208)
                                replace hx208_0 := (HB.out.cell (World.block_lt_of_cell? w _ hx208_0)).trans hx208_0
                                replace hx208_1 := (HB.out.cell (World.block_lt_of_cell? w _ hx208_1)).trans hx208_1
                                replace hx208_2 := (HB.out.cell (World.block_lt_of_cell? w _ hx208_2)).trans hx208_2
                                replace hx208_3 := (HB.out.cell (World.block_lt_of_cell? w _ hx208_3)).trans hx208_3
                                replace p208 := eq_true p208
                                replace q208 := eq_true q208
                                obtain ⟨hcz56_0, hcz56_1, hcz56_2, hcz56_3, hcz56_4, hcz56_5, hcz56_6, hcz56_7, hcz56_8, hcz56_9⟩ := cells_10 BK196.out
                                obtain ⟨hfz56_0, hfz56_1, hfz56_2, hfz56_3, hfz56_4, hfz56_5, hfz56_6, hfz56_7, hfz56_8, hfz56_9⟩ := froz_10 BK196.out
                                try go_wp2
                                go_roundg kj34
                                case measure => have := HK1.out; have := HJ34.out; omega
                                case rel => exact ⟨(y202), (wrap64 (x10_1 + 1)), (x196000_1), (x196001_1), (x196002_1), (x196003_1), (x196004_1), (x196005_1), (x196006_1), (x196007_1), (x196008_1), (x197000_1), ((rd_T28 l1 x10_1).f0), ((rd_T28 l1 x10_1).f1), ((rd_T28 l1 x10_1).f2), ((rd_T28 l1 x10_1).f3), ((rd_T28 l1 x10_1).f0), ((rd_T28 l1 x10_1).f1), ((rd_T28 l1 x10_1).f2), ((rd_T28 l1 x10_1).f3), (by first | rfl | (simp; done) | (simp [*]; done)), H', ⟨by have := HK1.out; have := HJ34.out; omega⟩, ⟨by (with_reducible repeat (first | apply Kd.R_alloc | apply Kd.R_drewN | apply Kd.R_drew)); exact Kd.R_mono (Kd.R_far (p := ⟨gb196, 8, none⟩) (Kd.R_far (p := ⟨gb196, 7, none⟩) (Kd.R_far (p := ⟨gb196, 6, none⟩) (Kd.R_far (p := ⟨gb196, 5, none⟩) (Kd.R_types HO_9.out BK196.out (by decide)) (fun _ hk => hk.2) (.int .i64 ((rd_T28 l1 x10_1).f0))) (fun _ hk => hk.2) (.int .i64 ((rd_T28 l1 x10_1).f1))) (fun _ hk => hk.2) (.float .f64 ((rd_T28 l1 x10_1).f2))) (fun _ hk => hk.2) (.string ((rd_T28 l1 x10_1).f3))) (fun _ hk => trivial)⟩, ⟨by (with_reducible repeat (first | refine blk_drewN ?_ _ | refine blk_drew ?_ | refine blk_alloc ?_ _)); refine blk_far ?_ NB194_196.out _; (with_reducible repeat (first | refine blk_drewN ?_ _ | refine blk_drew ?_ | refine blk_alloc ?_ _)); refine blk_far ?_ NB194_196.out _; (with_reducible repeat (first | refine blk_drewN ?_ _ | refine blk_drew ?_ | refine blk_alloc ?_ _)); refine blk_far ?_ NB194_196.out _; (with_reducible repeat (first | refine blk_drewN ?_ _ | refine blk_drew ?_ | refine blk_alloc ?_ _)); refine blk_far ?_ NB194_196.out _; (with_reducible repeat (first | refine blk_drewN ?_ _ | refine blk_drew ?_ | refine blk_alloc ?_ _)); exact BK194.out⟩, ⟨by (with_reducible repeat (first | refine blk_drewN ?_ _ | refine blk_drew ?_ | refine blk_alloc ?_ _)); refine blk_far ?_ NB195_196.out _; (with_reducible repeat (first | refine blk_drewN ?_ _ | refine blk_drew ?_ | refine blk_alloc ?_ _)); refine blk_far ?_ NB195_196.out _; (with_reducible repeat (first | refine blk_drewN ?_ _ | refine blk_drew ?_ | refine blk_alloc ?_ _)); refine blk_far ?_ NB195_196.out _; (with_reducible repeat (first | refine blk_drewN ?_ _ | refine blk_drew ?_ | refine blk_alloc ?_ _)); refine blk_far ?_ NB195_196.out _; (with_reducible repeat (first | refine blk_drewN ?_ _ | refine blk_drew ?_ | refine blk_alloc ?_ _)); exact BK195.out⟩, ⟨by (with_reducible repeat (first | refine blk_drewN ?_ _ | refine blk_drew ?_ | refine blk_alloc ?_ _)); refine blk_put (cs := #[.int .i64 x197000_1, .int .i64 ((rd_T28 l1 x10_1).f0), .int .i64 ((rd_T28 l1 x10_1).f1), .float .f64 ((rd_T28 l1 x10_1).f2), .string ((rd_T28 l1 x10_1).f3), .int .i64 ((rd_T28 l1 x10_1).f0), .int .i64 ((rd_T28 l1 x10_1).f1), .float .f64 ((rd_T28 l1 x10_1).f2), .string x197008_1, .slice none 0 0]) ?_ 8 _ rfl; (with_reducible repeat (first | refine blk_drewN ?_ _ | refine blk_drew ?_ | refine blk_alloc ?_ _)); refine blk_put (cs := #[.int .i64 x197000_1, .int .i64 ((rd_T28 l1 x10_1).f0), .int .i64 ((rd_T28 l1 x10_1).f1), .float .f64 ((rd_T28 l1 x10_1).f2), .string ((rd_T28 l1 x10_1).f3), .int .i64 ((rd_T28 l1 x10_1).f0), .int .i64 ((rd_T28 l1 x10_1).f1), .float .f64 x197007_1, .string x197008_1, .slice none 0 0]) ?_ 7 _ rfl; (with_reducible repeat (first | refine blk_drewN ?_ _ | refine blk_drew ?_ | refine blk_alloc ?_ _)); refine blk_put (cs := #[.int .i64 x197000_1, .int .i64 ((rd_T28 l1 x10_1).f0), .int .i64 ((rd_T28 l1 x10_1).f1), .float .f64 ((rd_T28 l1 x10_1).f2), .string ((rd_T28 l1 x10_1).f3), .int .i64 ((rd_T28 l1 x10_1).f0), .int .i64 x197006_1, .float .f64 x197007_1, .string x197008_1, .slice none 0 0]) ?_ 6 _ rfl; (with_reducible repeat (first | refine blk_drewN ?_ _ | refine blk_drew ?_ | refine blk_alloc ?_ _)); refine blk_put (cs := #[.int .i64 x197000_1, .int .i64 ((rd_T28 l1 x10_1).f0), .int .i64 ((rd_T28 l1 x10_1).f1), .float .f64 ((rd_T28 l1 x10_1).f2), .string ((rd_T28 l1 x10_1).f3), .int .i64 x197005_1, .int .i64 x197006_1, .float .f64 x197007_1, .string x197008_1, .slice none 0 0]) ?_ 5 _ rfl; (with_reducible repeat (first | refine blk_drewN ?_ _ | refine blk_drew ?_ | refine blk_alloc ?_ _)); exact BK196.out⟩, ⟨bel0⟩⟩
                              · rw [if_neg c49] at H
                                have c49b0 : ((y202.length : Int) == 1) = false := beq_eq_false_iff_ne.mpr c49
                                have c49b1 : ((y202.length : Int) != 1) = true := bne_iff_ne.mpr c49
                                replace H := Option.bind_eq_some_iff.mp H
                                obtain ⟨t210, A570, H⟩ := H
                                (try dsimp only at H)
                                have A57 := Aside0.mk A570
                                clear A570
                                by_cases c58 : t210 > 0
                                · rw [if_pos c58] at H
                                  have c58b0 : decide (0 < t210) = true := decide_eq_true c58
                                  clear c58
                                  have H' := Aside0.mk H
                                  clear H
                                  have p207 : 0 ≤ (x10_1 : Int) := of_decide_eq_true (by first | (with_reducible assumption) | assumption)
                                  have q207 : x10_1 < (l1.length : Int) := of_decide_eq_true (by first | (with_reducible assumption) | assumption)
                                  obtain ⟨ad207, e207, hx207_0, hx207_1, hx207_2, hx207_3⟩ := at_T28 HR1.out x10_1 p207 q207
                                  obtain rfl : ad198 = ad207 := (by injection e207)
                                  replace hx207_0 := (HB.out.cell (World.block_lt_of_cell? w _ hx207_0)).trans hx207_0
                                  replace hx207_1 := (HB.out.cell (World.block_lt_of_cell? w _ hx207_1)).trans hx207_1
                                  replace hx207_2 := (HB.out.cell (World.block_lt_of_cell? w _ hx207_2)).trans hx207_2
                                  replace hx207_3 := (HB.out.cell (World.block_lt_of_cell? w _ hx207_3)).trans hx207_3
                                  replace p207 := eq_true p207
                                  replace q207 := eq_true q207
                                  have hnb59 := NB196_194.out
                                  have hnc59 := NB194_196.out
                                  have hnb60 := NB196_195.out
                                  have hnc60 := NB195_196.out
                                  obtain ⟨hcz61_0, hcz61_1, hcz61_2, hcz61_3, hcz61_4, hcz61_5, hcz61_6, hcz61_7, hcz61_8, hcz61_9⟩ := cells_10 BK196.out
                                  obtain ⟨hfz61_0, hfz61_1, hfz61_2, hfz61_3, hfz61_4, hfz61_5, hfz61_6, hfz61_7, hfz61_8, hfz61_9⟩ := froz_10 BK196.out
                                  try go_wp2
                                  have n0_ : Aside0 (Kd.R k28 28 ((((wc.setCell ⟨gb196, 1, none⟩ (.int .i64 ((rd_T28 l1 x10_1).f0))).setCell ⟨gb196, 2, none⟩ (.int .i64 ((rd_T28 l1 x10_1).f1))).setCell ⟨gb196, 3, none⟩ (.float .f64 ((rd_T28 l1 x10_1).f2))).setCell ⟨gb196, 4, none⟩ (.string ((rd_T28 l1 x10_1).f3))) w.heap.size (fun _ => True) v203 y202) := ⟨by (with_reducible repeat (first | apply Kd.R_alloc | apply Kd.R_drewN | apply Kd.R_drew)); exact Kd.R_mono (Kd.R_far (p := ⟨gb196, 4, none⟩) (Kd.R_far (p := ⟨gb196, 3, none⟩) (Kd.R_far (p := ⟨gb196, 2, none⟩) (Kd.R_far (p := ⟨gb196, 1, none⟩) (Kd.R_types HO_9.out BK196.out (by decide)) (fun _ hk => hk.2) (.int .i64 ((rd_T28 l1 x10_1).f0))) (fun _ hk => hk.2) (.int .i64 ((rd_T28 l1 x10_1).f1))) (fun _ hk => hk.2) (.float .f64 ((rd_T28 l1 x10_1).f2))) (fun _ hk => hk.2) (.string ((rd_T28 l1 x10_1).f3))) (fun _ hk => trivial)⟩
                                  have n1_ : Aside0 (((((wc.setCell ⟨gb196, 1, none⟩ (.int .i64 ((rd_T28 l1 x10_1).f0))).setCell ⟨gb196, 2, none⟩ (.int .i64 ((rd_T28 l1 x10_1).f1))).setCell ⟨gb196, 3, none⟩ (.float .f64 ((rd_T28 l1 x10_1).f2))).setCell ⟨gb196, 4, none⟩ (.string ((rd_T28 l1 x10_1).f3))).heap[gb194]? = some (.cells #[.string a0_0, .int .i64 a0_1, .bool a0_2] 23 (0, 0))) := ⟨by (with_reducible repeat (first | refine blk_drewN ?_ _ | refine blk_drew ?_ | refine blk_alloc ?_ _)); refine blk_far ?_ NB194_196.out _; (with_reducible repeat (first | refine blk_drewN ?_ _ | refine blk_drew ?_ | refine blk_alloc ?_ _)); refine blk_far ?_ NB194_196.out _; (with_reducible repeat (first | refine blk_drewN ?_ _ | refine blk_drew ?_ | refine blk_alloc ?_ _)); refine blk_far ?_ NB194_196.out _; (with_reducible repeat (first | refine blk_drewN ?_ _ | refine blk_drew ?_ | refine blk_alloc ?_ _)); refine blk_far ?_ NB194_196.out _; (with_reducible repeat (first | refine blk_drewN ?_ _ | refine blk_drew ?_ | refine blk_alloc ?_ _)); exact BK194.out⟩
                                  have n2_ : Aside0 (((((wc.setCell ⟨gb196, 1, none⟩ (.int .i64 ((rd_T28 l1 x10_1).f0))).setCell ⟨gb196, 2, none⟩ (.int .i64 ((rd_T28 l1 x10_1).f1))).setCell ⟨gb196, 3, none⟩ (.float .f64 ((rd_T28 l1 x10_1).f2))).setCell ⟨gb196, 4, none⟩ (.string ((rd_T28 l1 x10_1).f3))).heap[gb195]? = some (.cells #[.int .i64 x196000_1, .int .i64 x196001_1, .int .i64 x196002_1, .float .f64 x196003_1, .string x196004_1, .int .i64 x196005_1, .int .i64 x196006_1, .float .f64 x196007_1, .string x196008_1, .slice none 0 0] 31 (0, 0))) := ⟨by (with_reducible repeat (first | refine blk_drewN ?_ _ | refine blk_drew ?_ | refine blk_alloc ?_ _)); refine blk_far ?_ NB195_196.out _; (with_reducible repeat (first | refine blk_drewN ?_ _ | refine blk_drew ?_ | refine blk_alloc ?_ _)); refine blk_far ?_ NB195_196.out _; (with_reducible repeat (first | refine blk_drewN ?_ _ | refine blk_drew ?_ | refine blk_alloc ?_ _)); refine blk_far ?_ NB195_196.out _; (with_reducible repeat (first | refine blk_drewN ?_ _ | refine blk_drew ?_ | refine blk_alloc ?_ _)); refine blk_far ?_ NB195_196.out _; (with_reducible repeat (first | refine blk_drewN ?_ _ | refine blk_drew ?_ | refine blk_alloc ?_ _)); exact BK195.out⟩
                                  have n3_ : Aside0 (((((wc.setCell ⟨gb196, 1, none⟩ (.int .i64 ((rd_T28 l1 x10_1).f0))).setCell ⟨gb196, 2, none⟩ (.int .i64 ((rd_T28 l1 x10_1).f1))).setCell ⟨gb196, 3, none⟩ (.float .f64 ((rd_T28 l1 x10_1).f2))).setCell ⟨gb196, 4, none⟩ (.string ((rd_T28 l1 x10_1).f3))).heap[gb196]? = some (.cells #[.int .i64 x197000_1, .int .i64 ((rd_T28 l1 x10_1).f0), .int .i64 ((rd_T28 l1 x10_1).f1), .float .f64 ((rd_T28 l1 x10_1).f2), .string ((rd_T28 l1 x10_1).f3), .int .i64 x197005_1, .int .i64 x197006_1, .float .f64 x197007_1, .string x197008_1, .slice none 0 0] 31 (0, 0))) := ⟨by (with_reducible repeat (first | refine blk_drewN ?_ _ | refine blk_drew ?_ | refine blk_alloc ?_ _)); refine blk_put (cs := #[.int .i64 x197000_1, .int .i64 ((rd_T28 l1 x10_1).f0), .int .i64 ((rd_T28 l1 x10_1).f1), .float .f64 ((rd_T28 l1 x10_1).f2), .string x197004_1, .int .i64 x197005_1, .int .i64 x197006_1, .float .f64 x197007_1, .string x197008_1, .slice none 0 0]) ?_ 4 _ rfl; (with_reducible repeat (first | refine blk_drewN ?_ _ | refine blk_drew ?_ | refine blk_alloc ?_ _)); refine blk_put (cs := #[.int .i64 x197000_1, .int .i64 ((rd_T28 l1 x10_1).f0), .int .i64 ((rd_T28 l1 x10_1).f1), .float .f64 x197003_1, .string x197004_1, .int .i64 x197005_1, .int .i64 x197006_1, .float .f64 x197007_1, .string x197008_1, .slice none 0 0]) ?_ 3 _ rfl; (with_reducible repeat (first | refine blk_drewN ?_ _ | refine blk_drew ?_ | refine blk_alloc ?_ _)); refine blk_put (cs := #[.int .i64 x197000_1, .int .i64 ((rd_T28 l1 x10_1).f0), .int .i64 x197002_1, .float .f64 x197003_1, .string x197004_1, .int .i64 x197005_1, .int .i64 x197006_1, .float .f64 x197007_1, .string x197008_1, .slice none 0 0]) ?_ 2 _ rfl; (with_reducible repeat (first | refine blk_drewN ?_ _ | refine blk_drew ?_ | refine blk_alloc ?_ _)); refine blk_put (cs := #[.int .i64 x197000_1, .int .i64 x197001_1, .int .i64 x197002_1, .float .f64 x197003_1, .string x197004_1, .int .i64 x197005_1, .int .i64 x197006_1, .float .f64 x197007_1, .string x197008_1, .slice none 0 0]) ?_ 1 _ rfl; (with_reducible repeat (first | refine blk_drewN ?_ _ | refine blk_drew ?_ | refine blk_alloc ?_ _)); exact BK196.out⟩
                                  have n4_ : Aside0 (Below w.heap.size w ((((wc.setCell ⟨gb196, 1, none⟩ (.int .i64 ((rd_T28 l1 x10_1).f0))).setCell ⟨gb196, 2, none⟩ (.int .i64 ((rd_T28 l1 x10_1).f1))).setCell ⟨gb196, 3, none⟩ (.float .f64 ((rd_T28 l1 x10_1).f2))).setCell ⟨gb196, 4, none⟩ (.string ((rd_T28 l1 x10_1).f3)))) := ⟨bel0⟩
                                  (try clear HO_9)
                                  (try clear BK194)
                                  (try clear BK195)
                                  (try clear BK196)
                                  (try clear HB)
                                  generalize ((((wc.setCell ⟨gb196, 1, none⟩ (.int .i64 ((rd_T28 l1 x10_1).f0))).setCell ⟨gb196, 2, none⟩ (.int .i64 ((rd_T28 l1 x10_1).f1))).setCell ⟨gb196, 3, none⟩ (.float .f64 ((rd_T28 l1 x10_1).f2))).setCell ⟨gb196, 4, none⟩ (.string ((rd_T28 l1 x10_1).f3))) = w62 at n0_ n1_ n2_ n3_ n4_ ⊢
                                  have HO_9 := n0_
                                  have BK194 := n1_
                                  have BK195 := n2_
                                  have BK196 := n3_
                                  have HB := n4_
                                  clear n0_ n1_ n2_ n3_ n4_
                                  have n0_ := Aside0.mk (Kd.R_drew HO_9.out)
                                  have n1_ := Aside0.mk (blk_drew BK194.out)
                                  have n2_ := Aside0.mk (blk_drew BK195.out)
                                  have n3_ := Aside0.mk (blk_drew BK196.out)
                                  have n4_ := Aside0.mk (below_drew1 HB.out)
                                  clear HO_9
                                  clear BK194
                                  clear BK195
                                  clear BK196
                                  clear HB
                                  have HO_9 := n0_
                                  have BK194 := n1_
                                  have BK195 := n2_
                                  have BK196 := n3_
                                  have HB := n4_
                                  clear n0_ n1_ n2_ n3_ n4_
                                  obtain ⟨Ao64, co64, eo64⟩ := Kd.R_slice HO_9.out
                                  (first | subst eo64 | (injection eo64 with f1_ f2_ f3_; have f4_ := f1_.symm; have f5_ := f3_.symm; clear f1_ f2_ f3_; subst f4_; subst f5_))
                                  have p209 : 0 ≤ (x10_1 : Int) := of_decide_eq_true (by first | (with_reducible assumption) | assumption)
                                  have q209 : x10_1 < (l1.length : Int) := of_decide_eq_true (by first | (with_reducible assumption) | assumption)
                                  obtain ⟨ad209, e209, hx209_0, hx209_1, hx209_2, hx209_3⟩ := at_T28 HR1.out x10_1 p209 q209
                                  have hw209_3 := hx209_3
                                  have hw209_2 := hx209_2
                                  have hw209_1 := hx209_1
                                  have hw209_0 := hx209_0
                                  obtain rfl : ad198 = ad209 := (by injection e209)
                                  replace hx209_0 := (HB.out.cell (World.block_lt_of_cell? w _ hx209_0)).trans hx209_0
                                  replace hx209_1 := (HB.out.cell (World.block_lt_of_cell? w _ hx209_1)).trans hx209_1
                                  replace hx209_2 := (HB.out.cell (World.block_lt_of_cell? w _ hx209_2)).trans hx209_2
                                  replace hx209_3 := (HB.out.cell (World.block_lt_of_cell? w _ hx209_3)).trans hx209_3
                                  replace p209 := eq_true p209
                                  replace q209 := eq_true q209
                                  refine start_ (n := 13) (S := fun w' => w'.cell? ⟨gb196, 0, none⟩ = some (.int .i64 x197000_1) ∧ w'.cell? ⟨gb196, 1, none⟩ = some (.int .i64 ((rd_T28 l1 x10_1).f0)) ∧ w'.cell? ⟨gb196, 2, none⟩ = some (.int .i64 ((rd_T28 l1 x10_1).f1)) ∧ w'.cell? ⟨gb196, 3, none⟩ = some (.float .f64 ((rd_T28 l1 x10_1).f2)) ∧ w'.cell? ⟨gb196, 4, none⟩ = some (.string ((rd_T28 l1 x10_1).f3)) ∧ w'.cell? ⟨gb196, 5, none⟩ = some (.int .i64 x197005_1) ∧ w'.cell? ⟨gb196, 6, none⟩ = some (.int .i64 x197006_1) ∧ w'.cell? ⟨gb196, 7, none⟩ = some (.float .f64 x197007_1) ∧ w'.cell? ⟨gb196, 8, none⟩ = some (.string x197008_1) ∧ w'.cell? ⟨gb196, 9, none⟩ = some (.slice none 0 0) ∧ w'.cell? (ad198.add ((x10_1).toNat * 4)) = some (.int .i64 ((rd_T28 l1 x10_1).f0)) ∧ w'.cell? ⟨(ad198.add ((x10_1).toNat * 4)).block, (ad198.add ((x10_1).toNat * 4)).off + 1, none⟩ = some (.int .i64 ((rd_T28 l1 x10_1).f1)) ∧ w'.cell? ⟨(ad198.add ((x10_1).toNat * 4)).block, (ad198.add ((x10_1).toNat * 4)).off + 2, none⟩ = some (.float .f64 ((rd_T28 l1 x10_1).f2)) ∧ w'.cell? ⟨(ad198.add ((x10_1).toNat * 4)).block, (ad198.add ((x10_1).toNat * 4)).off + 3, none⟩ = some (.string ((rd_T28 l1 x10_1).f3))) (ds := []) #[false, false, false, false, false, false, false, false, false, false, false, false, false] (by kernel_rfl) rfl rfl ⟨(blk_cell BK196.out 0).trans rfl, (blk_cell BK196.out 1).trans rfl, (blk_cell BK196.out 2).trans rfl, (blk_cell BK196.out 3).trans rfl, (blk_cell BK196.out 4).trans rfl, (blk_cell BK196.out 5).trans rfl, (blk_cell BK196.out 6).trans rfl, (blk_cell BK196.out 7).trans rfl, (blk_cell BK196.out 8).trans rfl, (blk_cell BK196.out 9).trans rfl, ((HB.out.cell (World.block_lt_of_cell? w _ hw209_0)).trans hw209_0), ((HB.out.cell (World.block_lt_of_cell? w _ hw209_1)).trans hw209_1), ((HB.out.cell (World.block_lt_of_cell? w _ hw209_2)).trans hw209_2), ((HB.out.cell (World.block_lt_of_cell? w _ hw209_3)).trans hw209_3)⟩ (fun hHeld => ?_); refine with_tabW colonnaderef14_Of.tab18 colonnaderef14_Of.bits18 (fun HT_ HW_ => ?_)
                                  generalize w62.drew = w63 at HO_9 BK194 BK195 BK196 HB hx209_0 hx209_1 hx209_2 hx209_3 hHeld ⊢
                                  refine pureP #[true, false, false, false, false, false, false, false, false, false, false, false, false] (any_of HT_.out (by kernel_rfl)) (i := 0) (N := some 72) ?_
                                  refine pureP #[true, true, false, false, false, false, false, false, false, false, false, false, false] (any_of HT_.out (by kernel_rfl)) (i := 1) (N := some 73) ?_
                                  refine pureP #[true, true, true, false, false, false, false, false, false, false, false, false, false] (any_of HT_.out (by kernel_rfl)) (i := 2) (N := some 74) ?_
                                  refine pureP #[true, true, true, true, false, false, false, false, false, false, false, false, false] (any_of HT_.out (by kernel_rfl)) (i := 3) (N := some 75) ?_
                                  refine pureP #[true, true, true, true, true, false, false, false, false, false, false, false, false] (any_of HT_.out (by kernel_rfl)) (i := 4) (N := some 76) ?_
                                  refine pureP #[true, true, true, true, true, true, false, false, false, false, false, false, false] (any_of HT_.out (by kernel_rfl)) (i := 5) (N := some 77) ?_
                                  refine pureP #[true, true, true, true, true, true, true, false, false, false, false, false, false] (any_of HT_.out (by kernel_rfl)) (i := 6) (N := some 78) ?_
                                  refine pureP #[true, true, true, true, true, true, true, false, true, false, false, false, false] (any_of HT_.out (by kernel_rfl)) (i := 8) (N := some 80) ?_
                                  refine takeP #[true, true, true, true, true, true, true, true, true, false, false, false, false] (take_ofW HT_.out HW_.out (by kernel_rfl)) hHeld (i := 7) (N := some 79) ?_
                                  refine takeP #[true, true, true, true, true, true, true, true, true, true, false, false, false] (take_ofW HT_.out HW_.out (by kernel_rfl)) hHeld (i := 9) (N := some 81) ?_
                                  refine one_ (i := 10) (N := some 82) #[true, true, true, true, true, true, true, true, true, true, true, false, false] rfl rfl (one_of HT_.out (by kernel_rfl)) (by decide) (fun K hK => ?_)
                                  refine goes_ Try.func46 (by kernel_rfl) rfl #[.agg #[.int .i64 ((rd_T28 l1 x10_1).f0), .int .i64 ((rd_T28 l1 x10_1).f1), .float .f64 ((rd_T28 l1 x10_1).f2), .string ((rd_T28 l1 x10_1).f3)], .agg #[.int .i64 x197005_1, .int .i64 x197006_1, .float .f64 x197007_1, .string x197008_1]] (by rfl) rfl rfl (by (try simp only [List.map_toArray, List.map_cons, List.map_nil]); first | done | rfl | (simp only [List.length_drop, List.length_take]; rfl)) ?_
                                  with_reducible refine (colonnaderef05_Compare.calls kj34 ((rd_T28 l1 x10_1).f0) ((rd_T28 l1 x10_1).f1) ((rd_T28 l1 x10_1).f2) ((rd_T28 l1 x10_1).f3) x197005_1 x197006_1 x197007_1 x197008_1 t210 _ A57.out).mono ?_
                                  rintro e w65 ⟨rfl, hb⟩
                                  refine ⟨_, rfl, ?_⟩
                                  have n0_ := Aside0.mk (Kd.R_below (row0 HO_9) hb)
                                  have n1_ := blkS BK194 hb
                                  have n2_ := blkS BK195 hb
                                  have n3_ := blkS BK196 hb
                                  have n4_ := Aside0.mk (below_step bel0 hb)
                                  clear HO_9
                                  clear BK194
                                  clear BK195
                                  clear BK196
                                  clear HB
                                  have HO_9 := n0_
                                  have BK194 := n1_
                                  have BK195 := n2_
                                  have BK196 := n3_
                                  have HB := n4_
                                  clear n0_ n1_ n2_ n3_ n4_
                                  (try clear hb)
                                  (try clear hb2)
                                  (try clear hk)
                                  (try clear hi)
                                  refine hK.out _ _ ⟨(blk_cell BK196.out 0).trans rfl, (blk_cell BK196.out 1).trans rfl, (blk_cell BK196.out 2).trans rfl, (blk_cell BK196.out 3).trans rfl, (blk_cell BK196.out 4).trans rfl, (blk_cell BK196.out 5).trans rfl, (blk_cell BK196.out 6).trans rfl, (blk_cell BK196.out 7).trans rfl, (blk_cell BK196.out 8).trans rfl, (blk_cell BK196.out 9).trans rfl, ((HB.out.cell (World.block_lt_of_cell? w _ hw209_0)).trans hw209_0), ((HB.out.cell (World.block_lt_of_cell? w _ hw209_1)).trans hw209_1), ((HB.out.cell (World.block_lt_of_cell? w _ hw209_2)).trans hw209_2), ((HB.out.cell (World.block_lt_of_cell? w _ hw209_3)).trans hw209_3)⟩ (fun hHeld => ?_)
                                  clear hK K
                                  refine norm_ (a' := ?_) ?_ ?_
                                  rotate_left
                                  · show Act.put _ (some 82) _ = _
                                    simp only [Act.put, List.setIfInBounds_toArray, List.set_cons_zero, List.set_cons_succ, i64_w, i32_w]
                                    rfl
                                  refine pureP #[true, true, true, true, true, true, true, true, true, true, true, true, false] (any_of HT_.out (by kernel_rfl)) (i := 11) (N := some 83) ?_
                                  refine pureP #[true, true, true, true, true, true, true, true, true, true, true, true, true] (any_of HT_.out (by kernel_rfl)) (i := 12) (N := some 84) ?_
                                  refine done_ (done_of HT_.out (by kernel_rfl)) ?_
                                  have p211 : 0 ≤ (x10_1 : Int) := of_decide_eq_true (by first | (with_reducible assumption) | assumption)
                                  have q211 : x10_1 < (l1.length : Int) := of_decide_eq_true (by first | (with_reducible assumption) | assumption)
                                  obtain ⟨ad211, e211, hx211_0, hx211_1, hx211_2, hx211_3⟩ := at_T28 HR1.out x10_1 p211 q211
                                  obtain rfl : ad198 = ad211 := (by injection e211)
                                  replace hx211_0 := (HB.out.cell (World.block_lt_of_cell? w _ hx211_0)).trans hx211_0
                                  replace hx211_1 := (HB.out.cell (World.block_lt_of_cell? w _ hx211_1)).trans hx211_1
                                  replace hx211_2 := (HB.out.cell (World.block_lt_of_cell? w _ hx211_2)).trans hx211_2
                                  replace hx211_3 := (HB.out.cell (World.block_lt_of_cell? w _ hx211_3)).trans hx211_3
                                  replace p211 := eq_true p211
                                  replace q211 := eq_true q211
                                  obtain ⟨hcz66_0, hcz66_1, hcz66_2, hcz66_3, hcz66_4, hcz66_5, hcz66_6, hcz66_7, hcz66_8, hcz66_9⟩ := cells_10 BK196.out
                                  obtain ⟨hfz66_0, hfz66_1, hfz66_2, hfz66_3, hfz66_4, hfz66_5, hfz66_6, hfz66_7, hfz66_8, hfz66_9⟩ := froz_10 BK196.out
                                  try go_wp2
                                  go_roundg kj34
                                  case measure => have := HK1.out; have := HJ34.out; omega
                                  case rel => exact ⟨(y202), (wrap64 (x10_1 + 1)), (x196000_1), (x196001_1), (x196002_1), (x196003_1), (x196004_1), (x196005_1), (x196006_1), (x196007_1), (x196008_1), (x197000_1), ((rd_T28 l1 x10_1).f0), ((rd_T28 l1 x10_1).f1), ((rd_T28 l1 x10_1).f2), ((rd_T28 l1 x10_1).f3), ((rd_T28 l1 x10_1).f0), ((rd_T28 l1 x10_1).f1), ((rd_T28 l1 x10_1).f2), ((rd_T28 l1 x10_1).f3), (by first | rfl | (simp; done) | (simp [*]; done)), H', ⟨by have := HK1.out; have := HJ34.out; omega⟩, ⟨by (with_reducible repeat (first | apply Kd.R_alloc | apply Kd.R_drewN | apply Kd.R_drew)); exact Kd.R_mono (Kd.R_far (p := ⟨gb196, 8, none⟩) (Kd.R_far (p := ⟨gb196, 7, none⟩) (Kd.R_far (p := ⟨gb196, 6, none⟩) (Kd.R_far (p := ⟨gb196, 5, none⟩) (Kd.R_types HO_9.out BK196.out (by decide)) (fun _ hk => hk.2) (.int .i64 ((rd_T28 l1 x10_1).f0))) (fun _ hk => hk.2) (.int .i64 ((rd_T28 l1 x10_1).f1))) (fun _ hk => hk.2) (.float .f64 ((rd_T28 l1 x10_1).f2))) (fun _ hk => hk.2) (.string ((rd_T28 l1 x10_1).f3))) (fun _ hk => trivial)⟩, ⟨by (with_reducible repeat (first | refine blk_drewN ?_ _ | refine blk_drew ?_ | refine blk_alloc ?_ _)); refine blk_far ?_ NB194_196.out _; (with_reducible repeat (first | refine blk_drewN ?_ _ | refine blk_drew ?_ | refine blk_alloc ?_ _)); refine blk_far ?_ NB194_196.out _; (with_reducible repeat (first | refine blk_drewN ?_ _ | refine blk_drew ?_ | refine blk_alloc ?_ _)); refine blk_far ?_ NB194_196.out _; (with_reducible repeat (first | refine blk_drewN ?_ _ | refine blk_drew ?_ | refine blk_alloc ?_ _)); refine blk_far ?_ NB194_196.out _; (with_reducible repeat (first | refine blk_drewN ?_ _ | refine blk_drew ?_ | refine blk_alloc ?_ _)); exact BK194.out⟩, ⟨by (with_reducible repeat (first | refine blk_drewN ?_ _ | refine blk_drew ?_ | refine blk_alloc ?_ _)); refine blk_far ?_ NB195_196.out _; (with_reducible repeat (first | refine blk_drewN ?_ _ | refine blk_drew ?_ | refine blk_alloc ?_ _)); refine blk_far ?_ NB195_196.out _; (with_reducible repeat (first | refine blk_drewN ?_ _ | refine blk_drew ?_ | refine blk_alloc ?_ _)); refine blk_far ?_ NB195_196.out _; (with_reducible repeat (first | refine blk_drewN ?_ _ | refine blk_drew ?_ | refine blk_alloc ?_ _)); refine blk_far ?_ NB195_196.out _; (with_reducible repeat (first | refine blk_drewN ?_ _ | refine blk_drew ?_ | refine blk_alloc ?_ _)); exact BK195.out⟩, ⟨by (with_reducible repeat (first | refine blk_drewN ?_ _ | refine blk_drew ?_ | refine blk_alloc ?_ _)); refine blk_put (cs := #[.int .i64 x197000_1, .int .i64 ((rd_T28 l1 x10_1).f0), .int .i64 ((rd_T28 l1 x10_1).f1), .float .f64 ((rd_T28 l1 x10_1).f2), .string ((rd_T28 l1 x10_1).f3), .int .i64 ((rd_T28 l1 x10_1).f0), .int .i64 ((rd_T28 l1 x10_1).f1), .float .f64 ((rd_T28 l1 x10_1).f2), .string x197008_1, .slice none 0 0]) ?_ 8 _ rfl; (with_reducible repeat (first | refine blk_drewN ?_ _ | refine blk_drew ?_ | refine blk_alloc ?_ _)); refine blk_put (cs := #[.int .i64 x197000_1, .int .i64 ((rd_T28 l1 x10_1).f0), .int .i64 ((rd_T28 l1 x10_1).f1), .float .f64 ((rd_T28 l1 x10_1).f2), .string ((rd_T28 l1 x10_1).f3), .int .i64 ((rd_T28 l1 x10_1).f0), .int .i64 ((rd_T28 l1 x10_1).f1), .float .f64 x197007_1, .string x197008_1, .slice none 0 0]) ?_ 7 _ rfl; (with_reducible repeat (first | refine blk_drewN ?_ _ | refine blk_drew ?_ | refine blk_alloc ?_ _)); refine blk_put (cs := #[.int .i64 x197000_1, .int .i64 ((rd_T28 l1 x10_1).f0), .int .i64 ((rd_T28 l1 x10_1).f1), .float .f64 ((rd_T28 l1 x10_1).f2), .string ((rd_T28 l1 x10_1).f3), .int .i64 ((rd_T28 l1 x10_1).f0), .int .i64 x197006_1, .float .f64 x197007_1, .string x197008_1, .slice none 0 0]) ?_ 6 _ rfl; (with_reducible repeat (first | refine blk_drewN ?_ _ | refine blk_drew ?_ | refine blk_alloc ?_ _)); refine blk_put (cs := #[.int .i64 x197000_1, .int .i64 ((rd_T28 l1 x10_1).f0), .int .i64 ((rd_T28 l1 x10_1).f1), .float .f64 ((rd_T28 l1 x10_1).f2), .string ((rd_T28 l1 x10_1).f3), .int .i64 x197005_1, .int .i64 x197006_1, .float .f64 x197007_1, .string x197008_1, .slice none 0 0]) ?_ 5 _ rfl; (with_reducible repeat (first | refine blk_drewN ?_ _ | refine blk_drew ?_ | refine blk_alloc ?_ _)); exact BK196.out⟩, ⟨bel0⟩⟩
                                · rw [if_neg c58] at H
                                  have c58b0 : decide (0 < t210) = false := decide_eq_false c58
                                  clear c58
                                  have H' := Aside0.mk H
                                  clear H
                                  have p207 : 0 ≤ (x10_1 : Int) := of_decide_eq_true (by first | (with_reducible assumption) | assumption)
                                  have q207 : x10_1 < (l1.length : Int) := of_decide_eq_true (by first | (with_reducible assumption) | assumption)
                                  obtain ⟨ad207, e207, hx207_0, hx207_1, hx207_2, hx207_3⟩ := at_T28 HR1.out x10_1 p207 q207
                                  obtain rfl : ad198 = ad207 := (by injection e207)
                                  replace hx207_0 := (HB.out.cell (World.block_lt_of_cell? w _ hx207_0)).trans hx207_0
                                  replace hx207_1 := (HB.out.cell (World.block_lt_of_cell? w _ hx207_1)).trans hx207_1
                                  replace hx207_2 := (HB.out.cell (World.block_lt_of_cell? w _ hx207_2)).trans hx207_2
                                  replace hx207_3 := (HB.out.cell (World.block_lt_of_cell? w _ hx207_3)).trans hx207_3
                                  replace p207 := eq_true p207
                                  replace q207 := eq_true q207
                                  have hnb67 := NB196_194.out
                                  have hnc67 := NB194_196.out
                                  have hnb68 := NB196_195.out
                                  have hnc68 := NB195_196.out
                                  obtain ⟨hcz69_0, hcz69_1, hcz69_2, hcz69_3, hcz69_4, hcz69_5, hcz69_6, hcz69_7, hcz69_8, hcz69_9⟩ := cells_10 BK196.out
                                  obtain ⟨hfz69_0, hfz69_1, hfz69_2, hfz69_3, hfz69_4, hfz69_5, hfz69_6, hfz69_7, hfz69_8, hfz69_9⟩ := froz_10 BK196.out
                                  try go_wp2
                                  have n0_ : Aside0 (Kd.R k28 28 ((((wc.setCell ⟨gb196, 1, none⟩ (.int .i64 ((rd_T28 l1 x10_1).f0))).setCell ⟨gb196, 2, none⟩ (.int .i64 ((rd_T28 l1 x10_1).f1))).setCell ⟨gb196, 3, none⟩ (.float .f64 ((rd_T28 l1 x10_1).f2))).setCell ⟨gb196, 4, none⟩ (.string ((rd_T28 l1 x10_1).f3))) w.heap.size (fun _ => True) v203 y202) := ⟨by (with_reducible repeat (first | apply Kd.R_alloc | apply Kd.R_drewN | apply Kd.R_drew)); exact Kd.R_mono (Kd.R_far (p := ⟨gb196, 4, none⟩) (Kd.R_far (p := ⟨gb196, 3, none⟩) (Kd.R_far (p := ⟨gb196, 2, none⟩) (Kd.R_far (p := ⟨gb196, 1, none⟩) (Kd.R_types HO_9.out BK196.out (by decide)) (fun _ hk => hk.2) (.int .i64 ((rd_T28 l1 x10_1).f0))) (fun _ hk => hk.2) (.int .i64 ((rd_T28 l1 x10_1).f1))) (fun _ hk => hk.2) (.float .f64 ((rd_T28 l1 x10_1).f2))) (fun _ hk => hk.2) (.string ((rd_T28 l1 x10_1).f3))) (fun _ hk => trivial)⟩
                                  have n1_ : Aside0 (((((wc.setCell ⟨gb196, 1, none⟩ (.int .i64 ((rd_T28 l1 x10_1).f0))).setCell ⟨gb196, 2, none⟩ (.int .i64 ((rd_T28 l1 x10_1).f1))).setCell ⟨gb196, 3, none⟩ (.float .f64 ((rd_T28 l1 x10_1).f2))).setCell ⟨gb196, 4, none⟩ (.string ((rd_T28 l1 x10_1).f3))).heap[gb194]? = some (.cells #[.string a0_0, .int .i64 a0_1, .bool a0_2] 23 (0, 0))) := ⟨by (with_reducible repeat (first | refine blk_drewN ?_ _ | refine blk_drew ?_ | refine blk_alloc ?_ _)); refine blk_far ?_ NB194_196.out _; (with_reducible repeat (first | refine blk_drewN ?_ _ | refine blk_drew ?_ | refine blk_alloc ?_ _)); refine blk_far ?_ NB194_196.out _; (with_reducible repeat (first | refine blk_drewN ?_ _ | refine blk_drew ?_ | refine blk_alloc ?_ _)); refine blk_far ?_ NB194_196.out _; (with_reducible repeat (first | refine blk_drewN ?_ _ | refine blk_drew ?_ | refine blk_alloc ?_ _)); refine blk_far ?_ NB194_196.out _; (with_reducible repeat (first | refine blk_drewN ?_ _ | refine blk_drew ?_ | refine blk_alloc ?_ _)); exact BK194.out⟩
                                  have n2_ : Aside0 (((((wc.setCell ⟨gb196, 1, none⟩ (.int .i64 ((rd_T28 l1 x10_1).f0))).setCell ⟨gb196, 2, none⟩ (.int .i64 ((rd_T28 l1 x10_1).f1))).setCell ⟨gb196, 3, none⟩ (.float .f64 ((rd_T28 l1 x10_1).f2))).setCell ⟨gb196, 4, none⟩ (.string ((rd_T28 l1 x10_1).f3))).heap[gb195]? = some (.cells #[.int .i64 x196000_1, .int .i64 x196001_1, .int .i64 x196002_1, .float .f64 x196003_1, .string x196004_1, .int .i64 x196005_1, .int .i64 x196006_1, .float .f64 x196007_1, .string x196008_1, .slice none 0 0] 31 (0, 0))) := ⟨by (with_reducible repeat (first | refine blk_drewN ?_ _ | refine blk_drew ?_ | refine blk_alloc ?_ _)); refine blk_far ?_ NB195_196.out _; (with_reducible repeat (first | refine blk_drewN ?_ _ | refine blk_drew ?_ | refine blk_alloc ?_ _)); refine blk_far ?_ NB195_196.out _; (with_reducible repeat (first | refine blk_drewN ?_ _ | refine blk_drew ?_ | refine blk_alloc ?_ _)); refine blk_far ?_ NB195_196.out _; (with_reducible repeat (first | refine blk_drewN ?_ _ | refine blk_drew ?_ | refine blk_alloc ?_ _)); refine blk_far ?_ NB195_196.out _; (with_reducible repeat (first | refine blk_drewN ?_ _ | refine blk_drew ?_ | refine blk_alloc ?_ _)); exact BK195.out⟩
                                  have n3_ : Aside0 (((((wc.setCell ⟨gb196, 1, none⟩ (.int .i64 ((rd_T28 l1 x10_1).f0))).setCell ⟨gb196, 2, none⟩ (.int .i64 ((rd_T28 l1 x10_1).f1))).setCell ⟨gb196, 3, none⟩ (.float .f64 ((rd_T28 l1 x10_1).f2))).setCell ⟨gb196, 4, none⟩ (.string ((rd_T28 l1 x10_1).f3))).heap[gb196]? = some (.cells #[.int .i64 x197000_1, .int .i64 ((rd_T28 l1 x10_1).f0), .int .i64 ((rd_T28 l1 x10_1).f1), .float .f64 ((rd_T28 l1 x10_1).f2), .string ((rd_T28 l1 x10_1).f3), .int .i64 x197005_1, .int .i64 x197006_1, .float .f64 x197007_1, .string x197008_1, .slice none 0 0] 31 (0, 0))) := ⟨by (with_reducible repeat (first | refine blk_drewN ?_ _ | refine blk_drew ?_ | refine blk_alloc ?_ _)); refine blk_put (cs := #[.int .i64 x197000_1, .int .i64 ((rd_T28 l1 x10_1).f0), .int .i64 ((rd_T28 l1 x10_1).f1), .float .f64 ((rd_T28 l1 x10_1).f2), .string x197004_1, .int .i64 x197005_1, .int .i64 x197006_1, .float .f64 x197007_1, .string x197008_1, .slice none 0 0]) ?_ 4 _ rfl; (with_reducible repeat (first | refine blk_drewN ?_ _ | refine blk_drew ?_ | refine blk_alloc ?_ _)); refine blk_put (cs := #[.int .i64 x197000_1, .int .i64 ((rd_T28 l1 x10_1).f0), .int .i64 ((rd_T28 l1 x10_1).f1), .float .f64 x197003_1, .string x197004_1, .int .i64 x197005_1, .int .i64 x197006_1, .float .f64 x197007_1, .string x197008_1, .slice none 0 0]) ?_ 3 _ rfl; (with_reducible repeat (first | refine blk_drewN ?_ _ | refine blk_drew ?_ | refine blk_alloc ?_ _)); refine blk_put (cs := #[.int .i64 x197000_1, .int .i64 ((rd_T28 l1 x10_1).f0), .int .i64 x197002_1, .float .f64 x197003_1, .string x197004_1, .int .i64 x197005_1, .int .i64 x197006_1, .float .f64 x197007_1, .string x197008_1, .slice none 0 0]) ?_ 2 _ rfl; (with_reducible repeat (first | refine blk_drewN ?_ _ | refine blk_drew ?_ | refine blk_alloc ?_ _)); refine blk_put (cs := #[.int .i64 x197000_1, .int .i64 x197001_1, .int .i64 x197002_1, .float .f64 x197003_1, .string x197004_1, .int .i64 x197005_1, .int .i64 x197006_1, .float .f64 x197007_1, .string x197008_1, .slice none 0 0]) ?_ 1 _ rfl; (with_reducible repeat (first | refine blk_drewN ?_ _ | refine blk_drew ?_ | refine blk_alloc ?_ _)); exact BK196.out⟩
                                  have n4_ : Aside0 (Below w.heap.size w ((((wc.setCell ⟨gb196, 1, none⟩ (.int .i64 ((rd_T28 l1 x10_1).f0))).setCell ⟨gb196, 2, none⟩ (.int .i64 ((rd_T28 l1 x10_1).f1))).setCell ⟨gb196, 3, none⟩ (.float .f64 ((rd_T28 l1 x10_1).f2))).setCell ⟨gb196, 4, none⟩ (.string ((rd_T28 l1 x10_1).f3)))) := ⟨bel0⟩
                                  (try clear HO_9)
                                  (try clear BK194)
                                  (try clear BK195)
                                  (try clear BK196)
                                  (try clear HB)
                                  generalize ((((wc.setCell ⟨gb196, 1, none⟩ (.int .i64 ((rd_T28 l1 x10_1).f0))).setCell ⟨gb196, 2, none⟩ (.int .i64 ((rd_T28 l1 x10_1).f1))).setCell ⟨gb196, 3, none⟩ (.float .f64 ((rd_T28 l1 x10_1).f2))).setCell ⟨gb196, 4, none⟩ (.string ((rd_T28 l1 x10_1).f3))) = w70 at n0_ n1_ n2_ n3_ n4_ ⊢
                                  have HO_9 := n0_
                                  have BK194 := n1_
                                  have BK195 := n2_
                                  have BK196 := n3_
                                  have HB := n4_
                                  clear n0_ n1_ n2_ n3_ n4_
                                  have n0_ := Aside0.mk (Kd.R_drew HO_9.out)
                                  have n1_ := Aside0.mk (blk_drew BK194.out)
                                  have n2_ := Aside0.mk (blk_drew BK195.out)
                                  have n3_ := Aside0.mk (blk_drew BK196.out)
                                  have n4_ := Aside0.mk (below_drew1 HB.out)
                                  clear HO_9
                                  clear BK194
                                  clear BK195
                                  clear BK196
                                  clear HB
                                  have HO_9 := n0_
                                  have BK194 := n1_
                                  have BK195 := n2_
                                  have BK196 := n3_
                                  have HB := n4_
                                  clear n0_ n1_ n2_ n3_ n4_
                                  obtain ⟨Ao72, co72, eo72⟩ := Kd.R_slice HO_9.out
                                  (first | subst eo72 | (injection eo72 with f1_ f2_ f3_; have f4_ := f1_.symm; have f5_ := f3_.symm; clear f1_ f2_ f3_; subst f4_; subst f5_))
                                  have p209 : 0 ≤ (x10_1 : Int) := of_decide_eq_true (by first | (with_reducible assumption) | assumption)
                                  have q209 : x10_1 < (l1.length : Int) := of_decide_eq_true (by first | (with_reducible assumption) | assumption)
                                  obtain ⟨ad209, e209, hx209_0, hx209_1, hx209_2, hx209_3⟩ := at_T28 HR1.out x10_1 p209 q209
                                  have hw209_3 := hx209_3
                                  have hw209_2 := hx209_2
                                  have hw209_1 := hx209_1
                                  have hw209_0 := hx209_0
                                  obtain rfl : ad198 = ad209 := (by injection e209)
                                  replace hx209_0 := (HB.out.cell (World.block_lt_of_cell? w _ hx209_0)).trans hx209_0
                                  replace hx209_1 := (HB.out.cell (World.block_lt_of_cell? w _ hx209_1)).trans hx209_1
                                  replace hx209_2 := (HB.out.cell (World.block_lt_of_cell? w _ hx209_2)).trans hx209_2
                                  replace hx209_3 := (HB.out.cell (World.block_lt_of_cell? w _ hx209_3)).trans hx209_3
                                  replace p209 := eq_true p209
                                  replace q209 := eq_true q209
                                  refine start_ (n := 13) (S := fun w' => w'.cell? ⟨gb196, 0, none⟩ = some (.int .i64 x197000_1) ∧ w'.cell? ⟨gb196, 1, none⟩ = some (.int .i64 ((rd_T28 l1 x10_1).f0)) ∧ w'.cell? ⟨gb196, 2, none⟩ = some (.int .i64 ((rd_T28 l1 x10_1).f1)) ∧ w'.cell? ⟨gb196, 3, none⟩ = some (.float .f64 ((rd_T28 l1 x10_1).f2)) ∧ w'.cell? ⟨gb196, 4, none⟩ = some (.string ((rd_T28 l1 x10_1).f3)) ∧ w'.cell? ⟨gb196, 5, none⟩ = some (.int .i64 x197005_1) ∧ w'.cell? ⟨gb196, 6, none⟩ = some (.int .i64 x197006_1) ∧ w'.cell? ⟨gb196, 7, none⟩ = some (.float .f64 x197007_1) ∧ w'.cell? ⟨gb196, 8, none⟩ = some (.string x197008_1) ∧ w'.cell? ⟨gb196, 9, none⟩ = some (.slice none 0 0) ∧ w'.cell? (ad198.add ((x10_1).toNat * 4)) = some (.int .i64 ((rd_T28 l1 x10_1).f0)) ∧ w'.cell? ⟨(ad198.add ((x10_1).toNat * 4)).block, (ad198.add ((x10_1).toNat * 4)).off + 1, none⟩ = some (.int .i64 ((rd_T28 l1 x10_1).f1)) ∧ w'.cell? ⟨(ad198.add ((x10_1).toNat * 4)).block, (ad198.add ((x10_1).toNat * 4)).off + 2, none⟩ = some (.float .f64 ((rd_T28 l1 x10_1).f2)) ∧ w'.cell? ⟨(ad198.add ((x10_1).toNat * 4)).block, (ad198.add ((x10_1).toNat * 4)).off + 3, none⟩ = some (.string ((rd_T28 l1 x10_1).f3))) (ds := []) #[false, false, false, false, false, false, false, false, false, false, false, false, false] (by kernel_rfl) rfl rfl ⟨(blk_cell BK196.out 0).trans rfl, (blk_cell BK196.out 1).trans rfl, (blk_cell BK196.out 2).trans rfl, (blk_cell BK196.out 3).trans rfl, (blk_cell BK196.out 4).trans rfl, (blk_cell BK196.out 5).trans rfl, (blk_cell BK196.out 6).trans rfl, (blk_cell BK196.out 7).trans rfl, (blk_cell BK196.out 8).trans rfl, (blk_cell BK196.out 9).trans rfl, ((HB.out.cell (World.block_lt_of_cell? w _ hw209_0)).trans hw209_0), ((HB.out.cell (World.block_lt_of_cell? w _ hw209_1)).trans hw209_1), ((HB.out.cell (World.block_lt_of_cell? w _ hw209_2)).trans hw209_2), ((HB.out.cell (World.block_lt_of_cell? w _ hw209_3)).trans hw209_3)⟩ (fun hHeld => ?_); refine with_tabW colonnaderef14_Of.tab18 colonnaderef14_Of.bits18 (fun HT_ HW_ => ?_)
                                  generalize w70.drew = w71 at HO_9 BK194 BK195 BK196 HB hx209_0 hx209_1 hx209_2 hx209_3 hHeld ⊢
                                  refine pureP #[true, false, false, false, false, false, false, false, false, false, false, false, false] (any_of HT_.out (by kernel_rfl)) (i := 0) (N := some 72) ?_
                                  refine pureP #[true, true, false, false, false, false, false, false, false, false, false, false, false] (any_of HT_.out (by kernel_rfl)) (i := 1) (N := some 73) ?_
                                  refine pureP #[true, true, true, false, false, false, false, false, false, false, false, false, false] (any_of HT_.out (by kernel_rfl)) (i := 2) (N := some 74) ?_
                                  refine pureP #[true, true, true, true, false, false, false, false, false, false, false, false, false] (any_of HT_.out (by kernel_rfl)) (i := 3) (N := some 75) ?_
                                  refine pureP #[true, true, true, true, true, false, false, false, false, false, false, false, false] (any_of HT_.out (by kernel_rfl)) (i := 4) (N := some 76) ?_
                                  refine pureP #[true, true, true, true, true, true, false, false, false, false, false, false, false] (any_of HT_.out (by kernel_rfl)) (i := 5) (N := some 77) ?_
                                  refine pureP #[true, true, true, true, true, true, true, false, false, false, false, false, false] (any_of HT_.out (by kernel_rfl)) (i := 6) (N := some 78) ?_
                                  refine pureP #[true, true, true, true, true, true, true, false, true, false, false, false, false] (any_of HT_.out (by kernel_rfl)) (i := 8) (N := some 80) ?_
                                  refine takeP #[true, true, true, true, true, true, true, true, true, false, false, false, false] (take_ofW HT_.out HW_.out (by kernel_rfl)) hHeld (i := 7) (N := some 79) ?_
                                  refine takeP #[true, true, true, true, true, true, true, true, true, true, false, false, false] (take_ofW HT_.out HW_.out (by kernel_rfl)) hHeld (i := 9) (N := some 81) ?_
                                  refine one_ (i := 10) (N := some 82) #[true, true, true, true, true, true, true, true, true, true, true, false, false] rfl rfl (one_of HT_.out (by kernel_rfl)) (by decide) (fun K hK => ?_)
                                  refine goes_ Try.func46 (by kernel_rfl) rfl #[.agg #[.int .i64 ((rd_T28 l1 x10_1).f0), .int .i64 ((rd_T28 l1 x10_1).f1), .float .f64 ((rd_T28 l1 x10_1).f2), .string ((rd_T28 l1 x10_1).f3)], .agg #[.int .i64 x197005_1, .int .i64 x197006_1, .float .f64 x197007_1, .string x197008_1]] (by rfl) rfl rfl (by (try simp only [List.map_toArray, List.map_cons, List.map_nil]); first | done | rfl | (simp only [List.length_drop, List.length_take]; rfl)) ?_
                                  with_reducible refine (colonnaderef05_Compare.calls kj34 ((rd_T28 l1 x10_1).f0) ((rd_T28 l1 x10_1).f1) ((rd_T28 l1 x10_1).f2) ((rd_T28 l1 x10_1).f3) x197005_1 x197006_1 x197007_1 x197008_1 t210 _ A57.out).mono ?_
                                  rintro e w73 ⟨rfl, hb⟩
                                  refine ⟨_, rfl, ?_⟩
                                  have n0_ := Aside0.mk (Kd.R_below (row0 HO_9) hb)
                                  have n1_ := blkS BK194 hb
                                  have n2_ := blkS BK195 hb
                                  have n3_ := blkS BK196 hb
                                  have n4_ := Aside0.mk (below_step bel0 hb)
                                  clear HO_9
                                  clear BK194
                                  clear BK195
                                  clear BK196
                                  clear HB
                                  have HO_9 := n0_
                                  have BK194 := n1_
                                  have BK195 := n2_
                                  have BK196 := n3_
                                  have HB := n4_
                                  clear n0_ n1_ n2_ n3_ n4_
                                  (try clear hb)
                                  (try clear hb2)
                                  (try clear hk)
                                  (try clear hi)
                                  refine hK.out _ _ ⟨(blk_cell BK196.out 0).trans rfl, (blk_cell BK196.out 1).trans rfl, (blk_cell BK196.out 2).trans rfl, (blk_cell BK196.out 3).trans rfl, (blk_cell BK196.out 4).trans rfl, (blk_cell BK196.out 5).trans rfl, (blk_cell BK196.out 6).trans rfl, (blk_cell BK196.out 7).trans rfl, (blk_cell BK196.out 8).trans rfl, (blk_cell BK196.out 9).trans rfl, ((HB.out.cell (World.block_lt_of_cell? w _ hw209_0)).trans hw209_0), ((HB.out.cell (World.block_lt_of_cell? w _ hw209_1)).trans hw209_1), ((HB.out.cell (World.block_lt_of_cell? w _ hw209_2)).trans hw209_2), ((HB.out.cell (World.block_lt_of_cell? w _ hw209_3)).trans hw209_3)⟩ (fun hHeld => ?_)
                                  clear hK K
                                  refine norm_ (a' := ?_) ?_ ?_
                                  rotate_left
                                  · show Act.put _ (some 82) _ = _
                                    simp only [Act.put, List.setIfInBounds_toArray, List.set_cons_zero, List.set_cons_succ, i64_w, i32_w]
                                    rfl
                                  refine pureP #[true, true, true, true, true, true, true, true, true, true, true, true, false] (any_of HT_.out (by kernel_rfl)) (i := 11) (N := some 83) ?_
                                  refine pureP #[true, true, true, true, true, true, true, true, true, true, true, true, true] (any_of HT_.out (by kernel_rfl)) (i := 12) (N := some 84) ?_
                                  refine done_ (done_of HT_.out (by kernel_rfl)) ?_
                                  try go_wp2
                                  go_roundg kj34
                                  case measure => have := HK1.out; have := HJ34.out; omega
                                  case rel => exact ⟨(y202), (wrap64 (x10_1 + 1)), (x196000_1), (x196001_1), (x196002_1), (x196003_1), (x196004_1), (x196005_1), (x196006_1), (x196007_1), (x196008_1), (x197000_1), ((rd_T28 l1 x10_1).f0), ((rd_T28 l1 x10_1).f1), ((rd_T28 l1 x10_1).f2), ((rd_T28 l1 x10_1).f3), (x197005_1), (x197006_1), (x197007_1), (x197008_1), (by first | rfl | (simp; done) | (simp [*]; done)), H', ⟨by have := HK1.out; have := HJ34.out; omega⟩, ⟨by (with_reducible repeat (first | apply Kd.R_alloc | apply Kd.R_drewN | apply Kd.R_drew)); exact HO_9.out⟩, ⟨by (with_reducible repeat (first | refine blk_drewN ?_ _ | refine blk_drew ?_ | refine blk_alloc ?_ _)); exact BK194.out⟩, ⟨by (with_reducible repeat (first | refine blk_drewN ?_ _ | refine blk_drew ?_ | refine blk_alloc ?_ _)); exact BK195.out⟩, ⟨by (with_reducible repeat (first | refine blk_drewN ?_ _ | refine blk_drew ?_ | refine blk_alloc ?_ _)); exact BK196.out⟩, ⟨bel0⟩⟩
                            · rw [if_neg c48] at H
                              exact absurd H (by simp)
                          · rw [if_neg c47] at H
                            exact absurd H (by simp)
                        · replace c46 := Bool.eq_false_iff.mpr c46
                          subst c46
                          rw [if_neg (show ¬ (false = true) by decide)] at H
                          by_cases c74 : (y202.length : Int) = 1
                          · rw [if_pos c74] at H
                            have c74b0 : ((y202.length : Int) == 1) = true := beq_iff_eq.mpr c74
                            have c74b1 : ((y202.length : Int) != 1) = false := bne_eq_false_iff_eq.mpr c74
                            clear c74
                            by_cases c75 : 0 ≤ x10_1
                            · rw [if_pos c75] at H
                              have c75b0 : decide (0 ≤ x10_1) = true := decide_eq_true c75
                              clear c75
                              by_cases c76 : x10_1 < (l1.length : Int)
                              · rw [if_pos c76] at H
                                have c76b0 : decide (x10_1 < (l1.length : Int)) = true := decide_eq_true c76
                                clear c76
                                have H' := Aside0.mk H
                                clear H
                                try go_wp2
                                have n0_ := Aside0.mk (Kd.R_drew HO_9.out)
                                have n1_ := Aside0.mk (blk_drew BK194.out)
                                have n2_ := Aside0.mk (blk_drew BK195.out)
                                have n3_ := Aside0.mk (blk_drew BK196.out)
                                have n4_ := Aside0.mk (below_drew1 HB.out)
                                clear HO_9
                                clear BK194
                                clear BK195
                                clear BK196
                                clear HB
                                have HO_9 := n0_
                                have BK194 := n1_
                                have BK195 := n2_
                                have BK196 := n3_
                                have HB := n4_
                                clear n0_ n1_ n2_ n3_ n4_
                                obtain ⟨Ao78, co78, eo78⟩ := Kd.R_slice HO_9.out
                                (first | subst eo78 | (injection eo78 with f1_ f2_ f3_; have f4_ := f1_.symm; have f5_ := f3_.symm; clear f1_ f2_ f3_; subst f4_; subst f5_))
                                refine start_ (n := 13) (S := fun w' => True) (ds := []) #[false, false, false, false, false, false, false, false, false, false, false, false, false] (by kernel_rfl) rfl rfl trivial (fun hHeld => ?_); refine with_tabW colonnaderef14_Of.tab18 colonnaderef14_Of.bits18 (fun HT_ HW_ => ?_)
                                generalize wc.drew = w77 at HO_9 BK194 BK195 BK196 HB hHeld ⊢
                                refine pureP #[true, false, false, false, false, false, false, false, false, false, false, false, false] (any_of HT_.out (by kernel_rfl)) (i := 0) (N := some 72) ?_
                                refine pureP #[true, true, false, false, false, false, false, false, false, false, false, false, false] (any_of HT_.out (by kernel_rfl)) (i := 1) (N := some 73) ?_
                                refine pureP #[true, true, true, false, false, false, false, false, false, false, false, false, false] (any_of HT_.out (by kernel_rfl)) (i := 2) (N := some 74) ?_
                                refine pureP #[true, true, true, true, false, false, false, false, false, false, false, false, false] (any_of HT_.out (by kernel_rfl)) (i := 3) (N := some 75) ?_
                                refine pureO #[true, true, true, true, true, false, false, false, false, false, false, false, false] (any_of HT_.out (by kernel_rfl)) (i := 4) (N := some 76) ?_
                                refine pureO #[true, true, true, true, true, true, false, false, false, false, false, false, false] (any_of HT_.out (by kernel_rfl)) (i := 5) (N := some 77) ?_
                                refine pureO #[true, true, true, true, true, true, true, false, false, false, false, false, false] (any_of HT_.out (by kernel_rfl)) (i := 6) (N := some 78) ?_
                                refine pureO #[true, true, true, true, true, true, true, true, false, false, false, false, false] (any_of HT_.out (by kernel_rfl)) (i := 7) (N := some 79) ?_
                                refine pureO #[true, true, true, true, true, true, true, true, true, false, false, false, false] (any_of HT_.out (by kernel_rfl)) (i := 8) (N := some 80) ?_
                                refine pureO #[true, true, true, true, true, true, true, true, true, true, false, false, false] (any_of HT_.out (by kernel_rfl)) (i := 9) (N := some 81) ?_
                                refine pureO #[true, true, true, true, true, true, true, true, true, true, true, false, false] (any_of HT_.out (by kernel_rfl)) (i := 10) (N := some 82) ?_
                                refine pureO #[true, true, true, true, true, true, true, true, true, true, true, true, false] (any_of HT_.out (by kernel_rfl)) (i := 11) (N := some 83) ?_
                                refine pureP #[true, true, true, true, true, true, true, true, true, true, true, true, true] (any_of HT_.out (by kernel_rfl)) (i := 12) (N := some 84) ?_
                                refine done_ (done_of HT_.out (by kernel_rfl)) ?_
                                have p212 : 0 ≤ (x10_1 : Int) := of_decide_eq_true (by first | (with_reducible assumption) | assumption)
                                have q212 : x10_1 < (l1.length : Int) := of_decide_eq_true (by first | (with_reducible assumption) | assumption)
                                obtain ⟨ad212, e212, hx212_0, hx212_1, hx212_2, hx212_3⟩ := at_T28 HR1.out x10_1 p212 q212
                                obtain rfl : ad198 = ad212 := (by injection e212)
                                replace hx212_0 := (HB.out.cell (World.block_lt_of_cell? w _ hx212_0)).trans hx212_0
                                replace hx212_1 := (HB.out.cell (World.block_lt_of_cell? w _ hx212_1)).trans hx212_1
                                replace hx212_2 := (HB.out.cell (World.block_lt_of_cell? w _ hx212_2)).trans hx212_2
                                replace hx212_3 := (HB.out.cell (World.block_lt_of_cell? w _ hx212_3)).trans hx212_3
                                replace p212 := eq_true p212
                                replace q212 := eq_true q212
                                have hnb79 := NB196_194.out
                                have hnc79 := NB194_196.out
                                have hnb80 := NB196_195.out
                                have hnc80 := NB195_196.out
                                obtain ⟨hcz81_0, hcz81_1, hcz81_2, hcz81_3, hcz81_4, hcz81_5, hcz81_6, hcz81_7, hcz81_8, hcz81_9⟩ := cells_10 BK196.out
                                obtain ⟨hfz81_0, hfz81_1, hfz81_2, hfz81_3, hfz81_4, hfz81_5, hfz81_6, hfz81_7, hfz81_8, hfz81_9⟩ := froz_10 BK196.out
                                try go_wp2
                                go_roundg kj34
                                case measure => have := HK1.out; have := HJ34.out; omega
                                case rel => exact ⟨(y202), (wrap64 (x10_1 + 1)), (x196000_1), (x196001_1), (x196002_1), (x196003_1), (x196004_1), (x196005_1), (x196006_1), (x196007_1), (x196008_1), (x197000_1), (x197001_1), (x197002_1), (x197003_1), (x197004_1), ((rd_T28 l1 x10_1).f0), ((rd_T28 l1 x10_1).f1), ((rd_T28 l1 x10_1).f2), ((rd_T28 l1 x10_1).f3), (by first | rfl | (simp; done) | (simp [*]; done)), H', ⟨by have := HK1.out; have := HJ34.out; omega⟩, ⟨by (with_reducible repeat (first | apply Kd.R_alloc | apply Kd.R_drewN | apply Kd.R_drew)); exact Kd.R_mono (Kd.R_far (p := ⟨gb196, 8, none⟩) (Kd.R_far (p := ⟨gb196, 7, none⟩) (Kd.R_far (p := ⟨gb196, 6, none⟩) (Kd.R_far (p := ⟨gb196, 5, none⟩) (Kd.R_types HO_9.out BK196.out (by decide)) (fun _ hk => hk.2) (.int .i64 ((rd_T28 l1 x10_1).f0))) (fun _ hk => hk.2) (.int .i64 ((rd_T28 l1 x10_1).f1))) (fun _ hk => hk.2) (.float .f64 ((rd_T28 l1 x10_1).f2))) (fun _ hk => hk.2) (.string ((rd_T28 l1 x10_1).f3))) (fun _ hk => trivial)⟩, ⟨by (with_reducible repeat (first | refine blk_drewN ?_ _ | refine blk_drew ?_ | refine blk_alloc ?_ _)); refine blk_far ?_ NB194_196.out _; (with_reducible repeat (first | refine blk_drewN ?_ _ | refine blk_drew ?_ | refine blk_alloc ?_ _)); refine blk_far ?_ NB194_196.out _; (with_reducible repeat (first | refine blk_drewN ?_ _ | refine blk_drew ?_ | refine blk_alloc ?_ _)); refine blk_far ?_ NB194_196.out _; (with_reducible repeat (first | refine blk_drewN ?_ _ | refine blk_drew ?_ | refine blk_alloc ?_ _)); refine blk_far ?_ NB194_196.out _; (with_reducible repeat (first | refine blk_drewN ?_ _ | refine blk_drew ?_ | refine blk_alloc ?_ _)); exact BK194.out⟩, ⟨by (with_reducible repeat (first | refine blk_drewN ?_ _ | refine blk_drew ?_ | refine blk_alloc ?_ _)); refine blk_far ?_ NB195_196.out _; (with_reducible repeat (first | refine blk_drewN ?_ _ | refine blk_drew ?_ | refine blk_alloc ?_ _)); refine blk_far ?_ NB195_196.out _; (with_reducible repeat (first | refine blk_drewN ?_ _ | refine blk_drew ?_ | refine blk_alloc ?_ _)); refine blk_far ?_ NB195_196.out _; (with_reducible repeat (first | refine blk_drewN ?_ _ | refine blk_drew ?_ | refine blk_alloc ?_ _)); refine blk_far ?_ NB195_196.out _; (with_reducible repeat (first | refine blk_drewN ?_ _ | refine blk_drew ?_ | refine blk_alloc ?_ _)); exact BK195.out⟩, ⟨by (with_reducible repeat (first | refine blk_drewN ?_ _ | refine blk_drew ?_ | refine blk_alloc ?_ _)); refine blk_put (cs := #[.int .i64 x197000_1, .int .i64 x197001_1, .int .i64 x197002_1, .float .f64 x197003_1, .string x197004_1, .int .i64 ((rd_T28 l1 x10_1).f0), .int .i64 ((rd_T28 l1 x10_1).f1), .float .f64 ((rd_T28 l1 x10_1).f2), .string x197008_1, .slice none 0 0]) ?_ 8 _ rfl; (with_reducible repeat (first | refine blk_drewN ?_ _ | refine blk_drew ?_ | refine blk_alloc ?_ _)); refine blk_put (cs := #[.int .i64 x197000_1, .int .i64 x197001_1, .int .i64 x197002_1, .float .f64 x197003_1, .string x197004_1, .int .i64 ((rd_T28 l1 x10_1).f0), .int .i64 ((rd_T28 l1 x10_1).f1), .float .f64 x197007_1, .string x197008_1, .slice none 0 0]) ?_ 7 _ rfl; (with_reducible repeat (first | refine blk_drewN ?_ _ | refine blk_drew ?_ | refine blk_alloc ?_ _)); refine blk_put (cs := #[.int .i64 x197000_1, .int .i64 x197001_1, .int .i64 x197002_1, .float .f64 x197003_1, .string x197004_1, .int .i64 ((rd_T28 l1 x10_1).f0), .int .i64 x197006_1, .float .f64 x197007_1, .string x197008_1, .slice none 0 0]) ?_ 6 _ rfl; (with_reducible repeat (first | refine blk_drewN ?_ _ | refine blk_drew ?_ | refine blk_alloc ?_ _)); refine blk_put (cs := #[.int .i64 x197000_1, .int .i64 x197001_1, .int .i64 x197002_1, .float .f64 x197003_1, .string x197004_1, .int .i64 x197005_1, .int .i64 x197006_1, .float .f64 x197007_1, .string x197008_1, .slice none 0 0]) ?_ 5 _ rfl; (with_reducible repeat (first | refine blk_drewN ?_ _ | refine blk_drew ?_ | refine blk_alloc ?_ _)); exact BK196.out⟩, ⟨bel0⟩⟩
                              · rw [if_neg c76] at H
                                exact absurd H (by simp)
                            · rw [if_neg c75] at H
                              exact absurd H (by simp)
                          · rw [if_neg c74] at H
                            have c74b0 : ((y202.length : Int) == 1) = false := beq_eq_false_iff_ne.mpr c74
                            have c74b1 : ((y202.length : Int) != 1) = true := bne_iff_ne.mpr c74
                            by_cases c82 : 0 ≤ x10_1
                            · rw [if_pos c82] at H
                              have c82b0 : decide (0 ≤ x10_1) = true := decide_eq_true c82
                              clear c82
                              by_cases c83 : x10_1 < (l1.length : Int)
                              · rw [if_pos c83] at H
                                have c83b0 : decide (x10_1 < (l1.length : Int)) = true := decide_eq_true c83
                                clear c83
                                replace H := Option.bind_eq_some_iff.mp H
                                obtain ⟨t214, A840, H⟩ := H
                                (try dsimp only at H)
                                have A84 := Aside0.mk A840
                                clear A840
                                by_cases c85 : t214 > 0
                                · rw [if_pos c85] at H
                                  have c85b0 : decide (0 < t214) = true := decide_eq_true c85
                                  clear c85
                                  have H' := Aside0.mk H
                                  clear H
                                  try go_wp2
                                  have n0_ := Aside0.mk (Kd.R_drew HO_9.out)
                                  have n1_ := Aside0.mk (blk_drew BK194.out)
                                  have n2_ := Aside0.mk (blk_drew BK195.out)
                                  have n3_ := Aside0.mk (blk_drew BK196.out)
                                  have n4_ := Aside0.mk (below_drew1 HB.out)
                                  clear HO_9
                                  clear BK194
                                  clear BK195
                                  clear BK196
                                  clear HB
                                  have HO_9 := n0_
                                  have BK194 := n1_
                                  have BK195 := n2_
                                  have BK196 := n3_
                                  have HB := n4_
                                  clear n0_ n1_ n2_ n3_ n4_
                                  obtain ⟨Ao87, co87, eo87⟩ := Kd.R_slice HO_9.out
                                  (first | subst eo87 | (injection eo87 with f1_ f2_ f3_; have f4_ := f1_.symm; have f5_ := f3_.symm; clear f1_ f2_ f3_; subst f4_; subst f5_))
                                  have p213 : 0 ≤ (x10_1 : Int) := of_decide_eq_true (by first | (with_reducible assumption) | assumption)
                                  have q213 : x10_1 < (l1.length : Int) := of_decide_eq_true (by first | (with_reducible assumption) | assumption)
                                  obtain ⟨ad213, e213, hx213_0, hx213_1, hx213_2, hx213_3⟩ := at_T28 HR1.out x10_1 p213 q213
                                  have hw213_3 := hx213_3
                                  have hw213_2 := hx213_2
                                  have hw213_1 := hx213_1
                                  have hw213_0 := hx213_0
                                  obtain rfl : ad198 = ad213 := (by injection e213)
                                  replace hx213_0 := (HB.out.cell (World.block_lt_of_cell? w _ hx213_0)).trans hx213_0
                                  replace hx213_1 := (HB.out.cell (World.block_lt_of_cell? w _ hx213_1)).trans hx213_1
                                  replace hx213_2 := (HB.out.cell (World.block_lt_of_cell? w _ hx213_2)).trans hx213_2
                                  replace hx213_3 := (HB.out.cell (World.block_lt_of_cell? w _ hx213_3)).trans hx213_3
                                  replace p213 := eq_true p213
                                  replace q213 := eq_true q213
                                  refine start_ (n := 13) (S := fun w' => w'.cell? ⟨gb196, 0, none⟩ = some (.int .i64 x197000_1) ∧ w'.cell? ⟨gb196, 1, none⟩ = some (.int .i64 x197001_1) ∧ w'.cell? ⟨gb196, 2, none⟩ = some (.int .i64 x197002_1) ∧ w'.cell? ⟨gb196, 3, none⟩ = some (.float .f64 x197003_1) ∧ w'.cell? ⟨gb196, 4, none⟩ = some (.string x197004_1) ∧ w'.cell? ⟨gb196, 5, none⟩ = some (.int .i64 x197005_1) ∧ w'.cell? ⟨gb196, 6, none⟩ = some (.int .i64 x197006_1) ∧ w'.cell? ⟨gb196, 7, none⟩ = some (.float .f64 x197007_1) ∧ w'.cell? ⟨gb196, 8, none⟩ = some (.string x197008_1) ∧ w'.cell? ⟨gb196, 9, none⟩ = some (.slice none 0 0) ∧ w'.cell? (ad198.add ((x10_1).toNat * 4)) = some (.int .i64 ((rd_T28 l1 x10_1).f0)) ∧ w'.cell? ⟨(ad198.add ((x10_1).toNat * 4)).block, (ad198.add ((x10_1).toNat * 4)).off + 1, none⟩ = some (.int .i64 ((rd_T28 l1 x10_1).f1)) ∧ w'.cell? ⟨(ad198.add ((x10_1).toNat * 4)).block, (ad198.add ((x10_1).toNat * 4)).off + 2, none⟩ = some (.float .f64 ((rd_T28 l1 x10_1).f2)) ∧ w'.cell? ⟨(ad198.add ((x10_1).toNat * 4)).block, (ad198.add ((x10_1).toNat * 4)).off + 3, none⟩ = some (.string ((rd_T28 l1 x10_1).f3))) (ds := []) #[false, false, false, false, false, false, false, false, false, false, false, false, false] (by kernel_rfl) rfl rfl ⟨(blk_cell BK196.out 0).trans rfl, (blk_cell BK196.out 1).trans rfl, (blk_cell BK196.out 2).trans rfl, (blk_cell BK196.out 3).trans rfl, (blk_cell BK196.out 4).trans rfl, (blk_cell BK196.out 5).trans rfl, (blk_cell BK196.out 6).trans rfl, (blk_cell BK196.out 7).trans rfl, (blk_cell BK196.out 8).trans rfl, (blk_cell BK196.out 9).trans rfl, ((HB.out.cell (World.block_lt_of_cell? w _ hw213_0)).trans hw213_0), ((HB.out.cell (World.block_lt_of_cell? w _ hw213_1)).trans hw213_1), ((HB.out.cell (World.block_lt_of_cell? w _ hw213_2)).trans hw213_2), ((HB.out.cell (World.block_lt_of_cell? w _ hw213_3)).trans hw213_3)⟩ (fun hHeld => ?_); refine with_tabW colonnaderef14_Of.tab18 colonnaderef14_Of.bits18 (fun HT_ HW_ => ?_)
                                  generalize wc.drew = w86 at HO_9 BK194 BK195 BK196 HB hx213_0 hx213_1 hx213_2 hx213_3 hHeld ⊢
                                  refine pureP #[true, false, false, false, false, false, false, false, false, false, false, false, false] (any_of HT_.out (by kernel_rfl)) (i := 0) (N := some 72) ?_
                                  refine pureP #[true, true, false, false, false, false, false, false, false, false, false, false, false] (any_of HT_.out (by kernel_rfl)) (i := 1) (N := some 73) ?_
                                  refine pureP #[true, true, true, false, false, false, false, false, false, false, false, false, false] (any_of HT_.out (by kernel_rfl)) (i := 2) (N := some 74) ?_
                                  refine pureP #[true, true, true, true, false, false, false, false, false, false, false, false, false] (any_of HT_.out (by kernel_rfl)) (i := 3) (N := some 75) ?_
                                  refine pureP #[true, true, true, true, true, false, false, false, false, false, false, false, false] (any_of HT_.out (by kernel_rfl)) (i := 4) (N := some 76) ?_
                                  refine pureP #[true, true, true, true, true, true, false, false, false, false, false, false, false] (any_of HT_.out (by kernel_rfl)) (i := 5) (N := some 77) ?_
                                  refine pureP #[true, true, true, true, true, true, true, false, false, false, false, false, false] (any_of HT_.out (by kernel_rfl)) (i := 6) (N := some 78) ?_
                                  refine pureP #[true, true, true, true, true, true, true, false, true, false, false, false, false] (any_of HT_.out (by kernel_rfl)) (i := 8) (N := some 80) ?_
                                  refine takeP #[true, true, true, true, true, true, true, true, true, false, false, false, false] (take_ofW HT_.out HW_.out (by kernel_rfl)) hHeld (i := 7) (N := some 79) ?_
                                  refine takeP #[true, true, true, true, true, true, true, true, true, true, false, false, false] (take_ofW HT_.out HW_.out (by kernel_rfl)) hHeld (i := 9) (N := some 81) ?_
                                  refine one_ (i := 10) (N := some 82) #[true, true, true, true, true, true, true, true, true, true, true, false, false] rfl rfl (one_of HT_.out (by kernel_rfl)) (by decide) (fun K hK => ?_)
                                  refine goes_ Try.func46 (by kernel_rfl) rfl #[.agg #[.int .i64 ((rd_T28 l1 x10_1).f0), .int .i64 ((rd_T28 l1 x10_1).f1), .float .f64 ((rd_T28 l1 x10_1).f2), .string ((rd_T28 l1 x10_1).f3)], .agg #[.int .i64 x197005_1, .int .i64 x197006_1, .float .f64 x197007_1, .string x197008_1]] (by rfl) rfl rfl (by (try simp only [List.map_toArray, List.map_cons, List.map_nil]); first | done | rfl | (simp only [List.length_drop, List.length_take]; rfl)) ?_
                                  with_reducible refine (colonnaderef05_Compare.calls kj34 ((rd_T28 l1 x10_1).f0) ((rd_T28 l1 x10_1).f1) ((rd_T28 l1 x10_1).f2) ((rd_T28 l1 x10_1).f3) x197005_1 x197006_1 x197007_1 x197008_1 t214 _ A84.out).mono ?_
                                  rintro e w88 ⟨rfl, hb⟩
                                  refine ⟨_, rfl, ?_⟩
                                  have n0_ := Aside0.mk (Kd.R_below (row0 HO_9) hb)
                                  have n1_ := blkS BK194 hb
                                  have n2_ := blkS BK195 hb
                                  have n3_ := blkS BK196 hb
                                  have n4_ := Aside0.mk (below_step bel0 hb)
                                  clear HO_9
                                  clear BK194
                                  clear BK195
                                  clear BK196
                                  clear HB
                                  have HO_9 := n0_
                                  have BK194 := n1_
                                  have BK195 := n2_
                                  have BK196 := n3_
                                  have HB := n4_
                                  clear n0_ n1_ n2_ n3_ n4_
                                  (try clear hb)
                                  (try clear hb2)
                                  (try clear hk)
                                  (try clear hi)
                                  refine hK.out _ _ ⟨(blk_cell BK196.out 0).trans rfl, (blk_cell BK196.out 1).trans rfl, (blk_cell BK196.out 2).trans rfl, (blk_cell BK196.out 3).trans rfl, (blk_cell BK196.out 4).trans rfl, (blk_cell BK196.out 5).trans rfl, (blk_cell BK196.out 6).trans rfl, (blk_cell BK196.out 7).trans rfl, (blk_cell BK196.out 8).trans rfl, (blk_cell BK196.out 9).trans rfl, ((HB.out.cell (World.block_lt_of_cell? w _ hw213_0)).trans hw213_0), ((HB.out.cell (World.block_lt_of_cell? w _ hw213_1)).trans hw213_1), ((HB.out.cell (World.block_lt_of_cell? w _ hw213_2)).trans hw213_2), ((HB.out.cell (World.block_lt_of_cell? w _ hw213_3)).trans hw213_3)⟩ (fun hHeld => ?_)
                                  clear hK K
                                  refine norm_ (a' := ?_) ?_ ?_
                                  rotate_left
                                  · show Act.put _ (some 82) _ = _
                                    simp only [Act.put, List.setIfInBounds_toArray, List.set_cons_zero, List.set_cons_succ, i64_w, i32_w]
                                    rfl
                                  refine pureP #[true, true, true, true, true, true, true, true, true, true, true, true, false] (any_of HT_.out (by kernel_rfl)) (i := 11) (N := some 83) ?_
                                  refine pureP #[true, true, true, true, true, true, true, true, true, true, true, true, true] (any_of HT_.out (by kernel_rfl)) (i := 12) (N := some 84) ?_
                                  refine done_ (done_of HT_.out (by kernel_rfl)) ?_
                                  have p215 : 0 ≤ (x10_1 : Int) := of_decide_eq_true (by first | (with_reducible assumption) | assumption)
                                  have q215 : x10_1 < (l1.length : Int) := of_decide_eq_true (by first | (with_reducible assumption) | assumption)
                                  obtain ⟨ad215, e215, hx215_0, hx215_1, hx215_2, hx215_3⟩ := at_T28 HR1.out x10_1 p215 q215
                                  obtain rfl : ad198 = ad215 := (by injection e215)
                                  replace hx215_0 := (HB.out.cell (World.block_lt_of_cell? w _ hx215_0)).trans hx215_0
                                  replace hx215_1 := (HB.out.cell (World.block_lt_of_cell? w _ hx215_1)).trans hx215_1
                                  replace hx215_2 := (HB.out.cell (World.block_lt_of_cell? w _ hx215_2)).trans hx215_2
                                  replace hx215_3 := (HB.out.cell (World.block_lt_of_cell? w _ hx215_3)).trans hx215_3
                                  replace p215 := eq_true p215
                                  replace q215 := eq_true q215
                                  have hnb89 := NB196_194.out
                                  have hnc89 := NB194_196.out
                                  have hnb90 := NB196_195.out
                                  have hnc90 := NB195_196.out
                                  obtain ⟨hcz91_0, hcz91_1, hcz91_2, hcz91_3, hcz91_4, hcz91_5, hcz91_6, hcz91_7, hcz91_8, hcz91_9⟩ := cells_10 BK196.out
                                  obtain ⟨hfz91_0, hfz91_1, hfz91_2, hfz91_3, hfz91_4, hfz91_5, hfz91_6, hfz91_7, hfz91_8, hfz91_9⟩ := froz_10 BK196.out
                                  try go_wp2
                                  go_roundg kj34
                                  case measure => have := HK1.out; have := HJ34.out; omega
                                  case rel => exact ⟨(y202), (wrap64 (x10_1 + 1)), (x196000_1), (x196001_1), (x196002_1), (x196003_1), (x196004_1), (x196005_1), (x196006_1), (x196007_1), (x196008_1), (x197000_1), (x197001_1), (x197002_1), (x197003_1), (x197004_1), ((rd_T28 l1 x10_1).f0), ((rd_T28 l1 x10_1).f1), ((rd_T28 l1 x10_1).f2), ((rd_T28 l1 x10_1).f3), (by first | rfl | (simp; done) | (simp [*]; done)), H', ⟨by have := HK1.out; have := HJ34.out; omega⟩, ⟨by (with_reducible repeat (first | apply Kd.R_alloc | apply Kd.R_drewN | apply Kd.R_drew)); exact Kd.R_mono (Kd.R_far (p := ⟨gb196, 8, none⟩) (Kd.R_far (p := ⟨gb196, 7, none⟩) (Kd.R_far (p := ⟨gb196, 6, none⟩) (Kd.R_far (p := ⟨gb196, 5, none⟩) (Kd.R_types HO_9.out BK196.out (by decide)) (fun _ hk => hk.2) (.int .i64 ((rd_T28 l1 x10_1).f0))) (fun _ hk => hk.2) (.int .i64 ((rd_T28 l1 x10_1).f1))) (fun _ hk => hk.2) (.float .f64 ((rd_T28 l1 x10_1).f2))) (fun _ hk => hk.2) (.string ((rd_T28 l1 x10_1).f3))) (fun _ hk => trivial)⟩, ⟨by (with_reducible repeat (first | refine blk_drewN ?_ _ | refine blk_drew ?_ | refine blk_alloc ?_ _)); refine blk_far ?_ NB194_196.out _; (with_reducible repeat (first | refine blk_drewN ?_ _ | refine blk_drew ?_ | refine blk_alloc ?_ _)); refine blk_far ?_ NB194_196.out _; (with_reducible repeat (first | refine blk_drewN ?_ _ | refine blk_drew ?_ | refine blk_alloc ?_ _)); refine blk_far ?_ NB194_196.out _; (with_reducible repeat (first | refine blk_drewN ?_ _ | refine blk_drew ?_ | refine blk_alloc ?_ _)); refine blk_far ?_ NB194_196.out _; (with_reducible repeat (first | refine blk_drewN ?_ _ | refine blk_drew ?_ | refine blk_alloc ?_ _)); exact BK194.out⟩, ⟨by (with_reducible repeat (first | refine blk_drewN ?_ _ | refine blk_drew ?_ | refine blk_alloc ?_ _)); refine blk_far ?_ NB195_196.out _; (with_reducible repeat (first | refine blk_drewN ?_ _ | refine blk_drew ?_ | refine blk_alloc ?_ _)); refine blk_far ?_ NB195_196.out _; (with_reducible repeat (first | refine blk_drewN ?_ _ | refine blk_drew ?_ | refine blk_alloc ?_ _)); refine blk_far ?_ NB195_196.out _; (with_reducible repeat (first | refine blk_drewN ?_ _ | refine blk_drew ?_ | refine blk_alloc ?_ _)); refine blk_far ?_ NB195_196.out _; (with_reducible repeat (first | refine blk_drewN ?_ _ | refine blk_drew ?_ | refine blk_alloc ?_ _)); exact BK195.out⟩, ⟨by (with_reducible repeat (first | refine blk_drewN ?_ _ | refine blk_drew ?_ | refine blk_alloc ?_ _)); refine blk_put (cs := #[.int .i64 x197000_1, .int .i64 x197001_1, .int .i64 x197002_1, .float .f64 x197003_1, .string x197004_1, .int .i64 ((rd_T28 l1 x10_1).f0), .int .i64 ((rd_T28 l1 x10_1).f1), .float .f64 ((rd_T28 l1 x10_1).f2), .string x197008_1, .slice none 0 0]) ?_ 8 _ rfl; (with_reducible repeat (first | refine blk_drewN ?_ _ | refine blk_drew ?_ | refine blk_alloc ?_ _)); refine blk_put (cs := #[.int .i64 x197000_1, .int .i64 x197001_1, .int .i64 x197002_1, .float .f64 x197003_1, .string x197004_1, .int .i64 ((rd_T28 l1 x10_1).f0), .int .i64 ((rd_T28 l1 x10_1).f1), .float .f64 x197007_1, .string x197008_1, .slice none 0 0]) ?_ 7 _ rfl; (with_reducible repeat (first | refine blk_drewN ?_ _ | refine blk_drew ?_ | refine blk_alloc ?_ _)); refine blk_put (cs := #[.int .i64 x197000_1, .int .i64 x197001_1, .int .i64 x197002_1, .float .f64 x197003_1, .string x197004_1, .int .i64 ((rd_T28 l1 x10_1).f0), .int .i64 x197006_1, .float .f64 x197007_1, .string x197008_1, .slice none 0 0]) ?_ 6 _ rfl; (with_reducible repeat (first | refine blk_drewN ?_ _ | refine blk_drew ?_ | refine blk_alloc ?_ _)); refine blk_put (cs := #[.int .i64 x197000_1, .int .i64 x197001_1, .int .i64 x197002_1, .float .f64 x197003_1, .string x197004_1, .int .i64 x197005_1, .int .i64 x197006_1, .float .f64 x197007_1, .string x197008_1, .slice none 0 0]) ?_ 5 _ rfl; (with_reducible repeat (first | refine blk_drewN ?_ _ | refine blk_drew ?_ | refine blk_alloc ?_ _)); exact BK196.out⟩, ⟨bel0⟩⟩
                                · rw [if_neg c85] at H
                                  have c85b0 : decide (0 < t214) = false := decide_eq_false c85
                                  clear c85
                                  have H' := Aside0.mk H
                                  clear H
                                  try go_wp2
                                  have n0_ := Aside0.mk (Kd.R_drew HO_9.out)
                                  have n1_ := Aside0.mk (blk_drew BK194.out)
                                  have n2_ := Aside0.mk (blk_drew BK195.out)
                                  have n3_ := Aside0.mk (blk_drew BK196.out)
                                  have n4_ := Aside0.mk (below_drew1 HB.out)
                                  clear HO_9
                                  clear BK194
                                  clear BK195
                                  clear BK196
                                  clear HB
                                  have HO_9 := n0_
                                  have BK194 := n1_
                                  have BK195 := n2_
                                  have BK196 := n3_
                                  have HB := n4_
                                  clear n0_ n1_ n2_ n3_ n4_
                                  obtain ⟨Ao93, co93, eo93⟩ := Kd.R_slice HO_9.out
                                  (first | subst eo93 | (injection eo93 with f1_ f2_ f3_; have f4_ := f1_.symm; have f5_ := f3_.symm; clear f1_ f2_ f3_; subst f4_; subst f5_))
                                  have p213 : 0 ≤ (x10_1 : Int) := of_decide_eq_true (by first | (with_reducible assumption) | assumption)
                                  have q213 : x10_1 < (l1.length : Int) := of_decide_eq_true (by first | (with_reducible assumption) | assumption)
                                  obtain ⟨ad213, e213, hx213_0, hx213_1, hx213_2, hx213_3⟩ := at_T28 HR1.out x10_1 p213 q213
                                  have hw213_3 := hx213_3
                                  have hw213_2 := hx213_2
                                  have hw213_1 := hx213_1
                                  have hw213_0 := hx213_0
                                  obtain rfl : ad198 = ad213 := (by injection e213)
                                  replace hx213_0 := (HB.out.cell (World.block_lt_of_cell? w _ hx213_0)).trans hx213_0
                                  replace hx213_1 := (HB.out.cell (World.block_lt_of_cell? w _ hx213_1)).trans hx213_1
                                  replace hx213_2 := (HB.out.cell (World.block_lt_of_cell? w _ hx213_2)).trans hx213_2
                                  replace hx213_3 := (HB.out.cell (World.block_lt_of_cell? w _ hx213_3)).trans hx213_3
                                  replace p213 := eq_true p213
                                  replace q213 := eq_true q213
                                  refine start_ (n := 13) (S := fun w' => w'.cell? ⟨gb196, 0, none⟩ = some (.int .i64 x197000_1) ∧ w'.cell? ⟨gb196, 1, none⟩ = some (.int .i64 x197001_1) ∧ w'.cell? ⟨gb196, 2, none⟩ = some (.int .i64 x197002_1) ∧ w'.cell? ⟨gb196, 3, none⟩ = some (.float .f64 x197003_1) ∧ w'.cell? ⟨gb196, 4, none⟩ = some (.string x197004_1) ∧ w'.cell? ⟨gb196, 5, none⟩ = some (.int .i64 x197005_1) ∧ w'.cell? ⟨gb196, 6, none⟩ = some (.int .i64 x197006_1) ∧ w'.cell? ⟨gb196, 7, none⟩ = some (.float .f64 x197007_1) ∧ w'.cell? ⟨gb196, 8, none⟩ = some (.string x197008_1) ∧ w'.cell? ⟨gb196, 9, none⟩ = some (.slice none 0 0) ∧ w'.cell? (ad198.add ((x10_1).toNat * 4)) = some (.int .i64 ((rd_T28 l1 x10_1).f0)) ∧ w'.cell? ⟨(ad198.add ((x10_1).toNat * 4)).block, (ad198.add ((x10_1).toNat * 4)).off + 1, none⟩ = some (.int .i64 ((rd_T28 l1 x10_1).f1)) ∧ w'.cell? ⟨(ad198.add ((x10_1).toNat * 4)).block, (ad198.add ((x10_1).toNat * 4)).off + 2, none⟩ = some (.float .f64 ((rd_T28 l1 x10_1).f2)) ∧ w'.cell? ⟨(ad198.add ((x10_1).toNat * 4)).block, (ad198.add ((x10_1).toNat * 4)).off + 3, none⟩ = some (.string ((rd_T28 l1 x10_1).f3))) (ds := []) #[false, false, false, false, false, false, false, false, false, false, false, false, false] (by kernel_rfl) rfl rfl ⟨(blk_cell BK196.out 0).trans rfl, (blk_cell BK196.out 1).trans rfl, (blk_cell BK196.out 2).trans rfl, (blk_cell BK196.out 3).trans rfl, (blk_cell BK196.out 4).trans rfl, (blk_cell BK196.out 5).trans rfl, (blk_cell BK196.out 6).trans rfl, (blk_cell BK196.out 7).trans rfl, (blk_cell BK196.out 8).trans rfl, (blk_cell BK196.out 9).trans rfl, ((HB.out.cell (World.block_lt_of_cell? w _ hw213_0)).trans hw213_0), ((HB.out.cell (World.block_lt_of_cell? w _ hw213_1)).trans hw213_1), ((HB.out.cell (World.block_lt_of_cell? w _ hw213_2)).trans hw213_2), ((HB.out.cell (World.block_lt_of_cell? w _ hw213_3)).trans hw213_3)⟩ (fun hHeld => ?_); refine with_tabW colonnaderef14_Of.tab18 colonnaderef14_Of.bits18 (fun HT_ HW_ => ?_)
                                  generalize wc.drew = w92 at HO_9 BK194 BK195 BK196 HB hx213_0 hx213_1 hx213_2 hx213_3 hHeld ⊢
                                  refine pureP #[true, false, false, false, false, false, false, false, false, false, false, false, false] (any_of HT_.out (by kernel_rfl)) (i := 0) (N := some 72) ?_
                                  refine pureP #[true, true, false, false, false, false, false, false, false, false, false, false, false] (any_of HT_.out (by kernel_rfl)) (i := 1) (N := some 73) ?_
                                  refine pureP #[true, true, true, false, false, false, false, false, false, false, false, false, false] (any_of HT_.out (by kernel_rfl)) (i := 2) (N := some 74) ?_
                                  refine pureP #[true, true, true, true, false, false, false, false, false, false, false, false, false] (any_of HT_.out (by kernel_rfl)) (i := 3) (N := some 75) ?_
                                  refine pureP #[true, true, true, true, true, false, false, false, false, false, false, false, false] (any_of HT_.out (by kernel_rfl)) (i := 4) (N := some 76) ?_
                                  refine pureP #[true, true, true, true, true, true, false, false, false, false, false, false, false] (any_of HT_.out (by kernel_rfl)) (i := 5) (N := some 77) ?_
                                  refine pureP #[true, true, true, true, true, true, true, false, false, false, false, false, false] (any_of HT_.out (by kernel_rfl)) (i := 6) (N := some 78) ?_
                                  refine pureP #[true, true, true, true, true, true, true, false, true, false, false, false, false] (any_of HT_.out (by kernel_rfl)) (i := 8) (N := some 80) ?_
                                  refine takeP #[true, true, true, true, true, true, true, true, true, false, false, false, false] (take_ofW HT_.out HW_.out (by kernel_rfl)) hHeld (i := 7) (N := some 79) ?_
                                  refine takeP #[true, true, true, true, true, true, true, true, true, true, false, false, false] (take_ofW HT_.out HW_.out (by kernel_rfl)) hHeld (i := 9) (N := some 81) ?_
                                  refine one_ (i := 10) (N := some 82) #[true, true, true, true, true, true, true, true, true, true, true, false, false] rfl rfl (one_of HT_.out (by kernel_rfl)) (by decide) (fun K hK => ?_)
                                  refine goes_ Try.func46 (by kernel_rfl) rfl #[.agg #[.int .i64 ((rd_T28 l1 x10_1).f0), .int .i64 ((rd_T28 l1 x10_1).f1), .float .f64 ((rd_T28 l1 x10_1).f2), .string ((rd_T28 l1 x10_1).f3)], .agg #[.int .i64 x197005_1, .int .i64 x197006_1, .float .f64 x197007_1, .string x197008_1]] (by rfl) rfl rfl (by (try simp only [List.map_toArray, List.map_cons, List.map_nil]); first | done | rfl | (simp only [List.length_drop, List.length_take]; rfl)) ?_
                                  with_reducible refine (colonnaderef05_Compare.calls kj34 ((rd_T28 l1 x10_1).f0) ((rd_T28 l1 x10_1).f1) ((rd_T28 l1 x10_1).f2) ((rd_T28 l1 x10_1).f3) x197005_1 x197006_1 x197007_1 x197008_1 t214 _ A84.out).mono ?_
                                  rintro e w94 ⟨rfl, hb⟩
                                  refine ⟨_, rfl, ?_⟩
                                  have n0_ := Aside0.mk (Kd.R_below (row0 HO_9) hb)
                                  have n1_ := blkS BK194 hb
                                  have n2_ := blkS BK195 hb
                                  have n3_ := blkS BK196 hb
                                  have n4_ := Aside0.mk (below_step bel0 hb)
                                  clear HO_9
                                  clear BK194
                                  clear BK195
                                  clear BK196
                                  clear HB
                                  have HO_9 := n0_
                                  have BK194 := n1_
                                  have BK195 := n2_
                                  have BK196 := n3_
                                  have HB := n4_
                                  clear n0_ n1_ n2_ n3_ n4_
                                  (try clear hb)
                                  (try clear hb2)
                                  (try clear hk)
                                  (try clear hi)
                                  refine hK.out _ _ ⟨(blk_cell BK196.out 0).trans rfl, (blk_cell BK196.out 1).trans rfl, (blk_cell BK196.out 2).trans rfl, (blk_cell BK196.out 3).trans rfl, (blk_cell BK196.out 4).trans rfl, (blk_cell BK196.out 5).trans rfl, (blk_cell BK196.out 6).trans rfl, (blk_cell BK196.out 7).trans rfl, (blk_cell BK196.out 8).trans rfl, (blk_cell BK196.out 9).trans rfl, ((HB.out.cell (World.block_lt_of_cell? w _ hw213_0)).trans hw213_0), ((HB.out.cell (World.block_lt_of_cell? w _ hw213_1)).trans hw213_1), ((HB.out.cell (World.block_lt_of_cell? w _ hw213_2)).trans hw213_2), ((HB.out.cell (World.block_lt_of_cell? w _ hw213_3)).trans hw213_3)⟩ (fun hHeld => ?_)
                                  clear hK K
                                  refine norm_ (a' := ?_) ?_ ?_
                                  rotate_left
                                  · show Act.put _ (some 82) _ = _
                                    simp only [Act.put, List.setIfInBounds_toArray, List.set_cons_zero, List.set_cons_succ, i64_w, i32_w]
                                    rfl
                                  refine pureP #[true, true, true, true, true, true, true, true, true, true, true, true, false] (any_of HT_.out (by kernel_rfl)) (i := 11) (N := some 83) ?_
                                  refine pureP #[true, true, true, true, true, true, true, true, true, true, true, true, true] (any_of HT_.out (by kernel_rfl)) (i := 12) (N := some 84) ?_
                                  refine done_ (done_of HT_.out (by kernel_rfl)) ?_
                                  try go_wp2
                                  go_roundg kj34
                                  case measure => have := HK1.out; have := HJ34.out; omega
                                  case rel => exact ⟨(y202), (wrap64 (x10_1 + 1)), (x196000_1), (x196001_1), (x196002_1), (x196003_1), (x196004_1), (x196005_1), (x196006_1), (x196007_1), (x196008_1), (x197000_1), (x197001_1), (x197002_1), (x197003_1), (x197004_1), (x197005_1), (x197006_1), (x197007_1), (x197008_1), (by first | rfl | (simp; done) | (simp [*]; done)), H', ⟨by have := HK1.out; have := HJ34.out; omega⟩, ⟨by (with_reducible repeat (first | apply Kd.R_alloc | apply Kd.R_drewN | apply Kd.R_drew)); exact HO_9.out⟩, ⟨by (with_reducible repeat (first | refine blk_drewN ?_ _ | refine blk_drew ?_ | refine blk_alloc ?_ _)); exact BK194.out⟩, ⟨by (with_reducible repeat (first | refine blk_drewN ?_ _ | refine blk_drew ?_ | refine blk_alloc ?_ _)); exact BK195.out⟩, ⟨by (with_reducible repeat (first | refine blk_drewN ?_ _ | refine blk_drew ?_ | refine blk_alloc ?_ _)); exact BK196.out⟩, ⟨bel0⟩⟩
                              · rw [if_neg c83] at H
                                exact absurd H (by simp)
                            · rw [if_neg c82] at H
                              exact absurd H (by simp)
                  · rw [if_neg c34] at H
                    exact absurd H (by simp)
              · replace c27 := Bool.eq_false_iff.mpr c27
                subst c27
                rw [if_neg (show ¬ (false = true) by decide)] at H
                simp only [Option.some.injEq, Prod.mk.injEq] at H
                obtain ⟨rfl, rfl, rfl, rfl, rfl, rfl, rfl, rfl, rfl, rfl, rfl⟩ := H
                try go_wp2
                have n0_ := Aside0.mk (Kd.R_drew HO_9.out)
                have n1_ := Aside0.mk (blk_drew BK194.out)
                have n2_ := Aside0.mk (blk_drew BK195.out)
                have n3_ := Aside0.mk (blk_drew BK196.out)
                have n4_ := Aside0.mk (below_drew1 HB.out)
                clear HO_9
                clear BK194
                clear BK195
                clear BK196
                clear HB
                have HO_9 := n0_
                have BK194 := n1_
                have BK195 := n2_
                have BK196 := n3_
                have HB := n4_
                clear n0_ n1_ n2_ n3_ n4_
                have p198 : 0 ≤ (x10_1 : Int) := of_decide_eq_true (by first | (with_reducible assumption) | assumption)
                have q198 : x10_1 < (l1.length : Int) := of_decide_eq_true (by first | (with_reducible assumption) | assumption)
                obtain ⟨ad198, e198, hx198_0, hx198_1, hx198_2, hx198_3⟩ := at_T28 HR1.out x10_1 p198 q198
                have hw198_3 := hx198_3
                have hw198_2 := hx198_2
                have hw198_1 := hx198_1
                have hw198_0 := hx198_0
                cases e198
                replace hx198_0 := (HB.out.cell (World.block_lt_of_cell? w _ hx198_0)).trans hx198_0
                replace hx198_1 := (HB.out.cell (World.block_lt_of_cell? w _ hx198_1)).trans hx198_1
                replace hx198_2 := (HB.out.cell (World.block_lt_of_cell? w _ hx198_2)).trans hx198_2
                replace hx198_3 := (HB.out.cell (World.block_lt_of_cell? w _ hx198_3)).trans hx198_3
                replace p198 := eq_true p198
                replace q198 := eq_true q198
                refine start_ (n := 7) (S := fun w' => w'.cell? ⟨gb194, 0, none⟩ = some (.string a0_0) ∧ w'.cell? ⟨gb194, 1, none⟩ = some (.int .i64 a0_1) ∧ w'.cell? ⟨gb194, 2, none⟩ = some (.bool a0_2) ∧ w'.cell? (ad198.add ((x10_1).toNat * 4)) = some (.int .i64 ((rd_T28 l1 x10_1).f0)) ∧ w'.cell? ⟨(ad198.add ((x10_1).toNat * 4)).block, (ad198.add ((x10_1).toNat * 4)).off + 1, none⟩ = some (.int .i64 ((rd_T28 l1 x10_1).f1)) ∧ w'.cell? ⟨(ad198.add ((x10_1).toNat * 4)).block, (ad198.add ((x10_1).toNat * 4)).off + 2, none⟩ = some (.float .f64 ((rd_T28 l1 x10_1).f2)) ∧ w'.cell? ⟨(ad198.add ((x10_1).toNat * 4)).block, (ad198.add ((x10_1).toNat * 4)).off + 3, none⟩ = some (.string ((rd_T28 l1 x10_1).f3))) (ds := []) #[false, false, false, false, false, false, false] (by kernel_rfl) rfl rfl ⟨(blk_cell BK194.out 0).trans rfl, (blk_cell BK194.out 1).trans rfl, (blk_cell BK194.out 2).trans rfl, ((HB.out.cell (World.block_lt_of_cell? w _ hw198_0)).trans hw198_0), ((HB.out.cell (World.block_lt_of_cell? w _ hw198_1)).trans hw198_1), ((HB.out.cell (World.block_lt_of_cell? w _ hw198_2)).trans hw198_2), ((HB.out.cell (World.block_lt_of_cell? w _ hw198_3)).trans hw198_3)⟩ (fun hHeld => ?_)
                generalize wr.drew = w95 at HO_9 BK194 BK195 BK196 HB hx198_0 hx198_1 hx198_2 hx198_3 hHeld ⊢
                refine pureP #[false, true, false, false, false, false, false] (by kernel_rfl) (i := 1) (N := some 29) ?_
                refine pureP #[false, true, true, false, false, false, false] (by kernel_rfl) (i := 2) (N := some 30) ?_
                refine pureP #[false, true, true, true, false, false, false] (by kernel_rfl) (i := 3) (N := some 31) ?_
                refine takeP #[true, true, true, true, false, false, false] (by kernel_rfl) hHeld (i := 0) (N := some 28) ?_
                refine takeP #[true, true, true, true, true, false, false] (by kernel_rfl) hHeld (i := 4) (N := some 32) ?_
                refine one_ (i := 5) (N := some 33) #[true, true, true, true, true, true, false] rfl rfl (by kernel_rfl) (by decide) (fun K hK => ?_)
                refine goes_ Try.func45 (by kernel_rfl) rfl #[.agg #[.string a0_0, .int .i64 a0_1, .bool a0_2], .agg #[.int .i64 ((rd_T28 l1 x10_1).f0), .int .i64 ((rd_T28 l1 x10_1).f1), .float .f64 ((rd_T28 l1 x10_1).f2), .string ((rd_T28 l1 x10_1).f3)]] (by rfl) rfl rfl (by (try simp only [List.map_toArray, List.map_cons, List.map_nil]); first | done | rfl | (simp only [List.length_drop, List.length_take]; rfl)) ?_
                with_reducible refine (colonnaderef05_Fits.calls k1 a0_0 a0_1 a0_2 ((rd_T28 l1 x10_1).f0) ((rd_T28 l1 x10_1).f1) ((rd_T28 l1 x10_1).f2) ((rd_T28 l1 x10_1).f3) false _ A26.out).mono ?_
                rintro e w96 ⟨rfl, hb⟩
                refine ⟨_, rfl, ?_⟩
                have n0_ := Aside0.mk (Kd.R_below (row0 HO_9) hb)
                have n1_ := blkS BK194 hb
                have n2_ := blkS BK195 hb
                have n3_ := blkS BK196 hb
                have n4_ := Aside0.mk (below_step bel0 hb)
                clear HO_9
                clear BK194
                clear BK195
                clear BK196
                clear HB
                have HO_9 := n0_
                have BK194 := n1_
                have BK195 := n2_
                have BK196 := n3_
                have HB := n4_
                clear n0_ n1_ n2_ n3_ n4_
                (try clear hb)
                (try clear hb2)
                (try clear hk)
                (try clear hi)
                refine hK.out _ _ ⟨(blk_cell BK194.out 0).trans rfl, (blk_cell BK194.out 1).trans rfl, (blk_cell BK194.out 2).trans rfl, ((HB.out.cell (World.block_lt_of_cell? w _ hw198_0)).trans hw198_0), ((HB.out.cell (World.block_lt_of_cell? w _ hw198_1)).trans hw198_1), ((HB.out.cell (World.block_lt_of_cell? w _ hw198_2)).trans hw198_2), ((HB.out.cell (World.block_lt_of_cell? w _ hw198_3)).trans hw198_3)⟩ (fun hHeld => ?_)
                clear hK K
                refine norm_ (a' := ?_) ?_ ?_
                rotate_left
                · show Act.put _ (some 33) _ = _
                  simp only [Act.put, List.setIfInBounds_toArray, List.set_cons_zero, List.set_cons_succ, i64_w, i32_w]
                  rfl
                refine pureP #[true, true, true, true, true, true, true] (by kernel_rfl) (i := 6) (N := some 11) ?_
                refine done_ (by kernel_rfl) ?_
                have hnb97 := NB195_194.out
                have hnc97 := NB194_195.out
                have hnb98 := NB195_196.out
                have hnc98 := NB196_195.out
                obtain ⟨hcz99_0, hcz99_1, hcz99_2, hcz99_3, hcz99_4, hcz99_5, hcz99_6, hcz99_7, hcz99_8, hcz99_9⟩ := cells_10 BK195.out
                obtain ⟨hfz99_0, hfz99_1, hfz99_2, hfz99_3, hfz99_4, hfz99_5, hfz99_6, hfz99_7, hfz99_8, hfz99_9⟩ := froz_10 BK195.out
                try go_wp2
                refine bodyPost_ret (results_ct rfl _ _ gb195 31 #[.int .i64 0, .int .i64 0, .int .i64 0, .float .f64 (0 : Nat), .string (⟨#[]⟩ : ByteArray), .int .i64 0, .int .i64 0, .float .f64 (0 : Nat), .string (⟨#[]⟩ : ByteArray), .slice none 0 0] (0, 0) _ rfl (by (with_reducible repeat (first | refine blk_drewN ?_ _ | refine blk_drew ?_ | refine blk_alloc ?_ _)); refine blk_put (cs := #[.int .i64 0, .int .i64 0, .int .i64 0, .float .f64 (0 : Nat), .string (⟨#[]⟩ : ByteArray), .int .i64 0, .int .i64 0, .float .f64 (0 : Nat), .string (⟨#[]⟩ : ByteArray), .slice none 0 0]) ?_ 9 _ rfl; (with_reducible repeat (first | refine blk_drewN ?_ _ | refine blk_drew ?_ | refine blk_alloc ?_ _)); refine blk_put (cs := #[.int .i64 0, .int .i64 0, .int .i64 0, .float .f64 (0 : Nat), .string (⟨#[]⟩ : ByteArray), .int .i64 0, .int .i64 0, .float .f64 (0 : Nat), .string x196008_1, .slice none 0 0]) ?_ 8 _ rfl; (with_reducible repeat (first | refine blk_drewN ?_ _ | refine blk_drew ?_ | refine blk_alloc ?_ _)); refine blk_put (cs := #[.int .i64 0, .int .i64 0, .int .i64 0, .float .f64 (0 : Nat), .string (⟨#[]⟩ : ByteArray), .int .i64 0, .int .i64 0, .float .f64 x196007_1, .string x196008_1, .slice none 0 0]) ?_ 7 _ rfl; (with_reducible repeat (first | refine blk_drewN ?_ _ | refine blk_drew ?_ | refine blk_alloc ?_ _)); refine blk_put (cs := #[.int .i64 0, .int .i64 0, .int .i64 0, .float .f64 (0 : Nat), .string (⟨#[]⟩ : ByteArray), .int .i64 0, .int .i64 x196006_1, .float .f64 x196007_1, .string x196008_1, .slice none 0 0]) ?_ 6 _ rfl; (with_reducible repeat (first | refine blk_drewN ?_ _ | refine blk_drew ?_ | refine blk_alloc ?_ _)); refine blk_put (cs := #[.int .i64 0, .int .i64 0, .int .i64 0, .float .f64 (0 : Nat), .string (⟨#[]⟩ : ByteArray), .int .i64 x196005_1, .int .i64 x196006_1, .float .f64 x196007_1, .string x196008_1, .slice none 0 0]) ?_ 5 _ rfl; (with_reducible repeat (first | refine blk_drewN ?_ _ | refine blk_drew ?_ | refine blk_alloc ?_ _)); refine blk_put (cs := #[.int .i64 0, .int .i64 0, .int .i64 0, .float .f64 (0 : Nat), .string x196004_1, .int .i64 x196005_1, .int .i64 x196006_1, .float .f64 x196007_1, .string x196008_1, .slice none 0 0]) ?_ 4 _ rfl; (with_reducible repeat (first | refine blk_drewN ?_ _ | refine blk_drew ?_ | refine blk_alloc ?_ _)); refine blk_put (cs := #[.int .i64 0, .int .i64 0, .int .i64 0, .float .f64 x196003_1, .string x196004_1, .int .i64 x196005_1, .int .i64 x196006_1, .float .f64 x196007_1, .string x196008_1, .slice none 0 0]) ?_ 3 _ rfl; (with_reducible repeat (first | refine blk_drewN ?_ _ | refine blk_drew ?_ | refine blk_alloc ?_ _)); refine blk_put (cs := #[.int .i64 0, .int .i64 0, .int .i64 x196002_1, .float .f64 x196003_1, .string x196004_1, .int .i64 x196005_1, .int .i64 x196006_1, .float .f64 x196007_1, .string x196008_1, .slice none 0 0]) ?_ 2 _ rfl; (with_reducible repeat (first | refine blk_drewN ?_ _ | refine blk_drew ?_ | refine blk_alloc ?_ _)); refine blk_put (cs := #[.int .i64 0, .int .i64 x196001_1, .int .i64 x196002_1, .float .f64 x196003_1, .string x196004_1, .int .i64 x196005_1, .int .i64 x196006_1, .float .f64 x196007_1, .string x196008_1, .slice none 0 0]) ?_ 1 _ rfl; (with_reducible repeat (first | refine blk_drewN ?_ _ | refine blk_drew ?_ | refine blk_alloc ?_ _)); refine blk_put (cs := #[.int .i64 x196000_1, .int .i64 x196001_1, .int .i64 x196002_1, .float .f64 x196003_1, .string x196004_1, .int .i64 x196005_1, .int .i64 x196006_1, .float .f64 x196007_1, .string x196008_1, .slice none 0 0]) ?_ 0 _ rfl; (with_reducible repeat (first | refine blk_drewN ?_ _ | refine blk_drew ?_ | refine blk_alloc ?_ _)); exact BK195.out) Try.underlying31 rfl (by kernel_rfl)) rfl ?_
                exact ⟨_, by first | rfl | (simp [errW_none, errW_some] <;> rfl) | (simp [*, errW_none, errW_some] <;> rfl), by first | exact Kd.R_nil _ _ _ _ _ | exact Kd.N_nil _ _ _ _ _ | exact Kd.V_nil _ _ _ _ _ | exact Kd.Q_nil _ _ _ _ _ | exact Kd.S_nil _ _ _ _ _, bel0⟩
            · rw [if_neg c25] at H
              exact absurd H (by simp)
          · rw [if_neg c24] at H
            have c24b0 : decide (x10_1 < (l1.length : Int)) = false := decide_eq_false c24
            clear c24
            by_cases c100 : a2 = 0
            · rw [if_pos c100] at H
              have c100b0 : (a2 == 0) = true := beq_iff_eq.mpr c100
              have c100b1 : (a2 != 0) = false := bne_eq_false_iff_eq.mpr c100
              clear c100
              simp only [Option.some.injEq, Prod.mk.injEq] at H
              obtain ⟨rfl, rfl, rfl, rfl, rfl, rfl, rfl, rfl, rfl, rfl, rfl⟩ := H
              have hnb101 := NB196_194.out
              have hnc101 := NB194_196.out
              have hnb102 := NB196_195.out
              have hnc102 := NB195_196.out
              obtain ⟨hcz103_0, hcz103_1, hcz103_2, hcz103_3, hcz103_4, hcz103_5, hcz103_6, hcz103_7, hcz103_8, hcz103_9⟩ := cells_10 BK196.out
              obtain ⟨hfz103_0, hfz103_1, hfz103_2, hfz103_3, hfz103_4, hfz103_5, hfz103_6, hfz103_7, hfz103_8, hfz103_9⟩ := froz_10 BK196.out
              have hnb104 := NB195_194.out
              have hnc104 := NB194_195.out
              obtain ⟨hcz105_0, hcz105_1, hcz105_2, hcz105_3, hcz105_4, hcz105_5, hcz105_6, hcz105_7, hcz105_8, hcz105_9⟩ := cells_10 BK195.out
              obtain ⟨hfz105_0, hfz105_1, hfz105_2, hfz105_3, hfz105_4, hfz105_5, hfz105_6, hfz105_7, hfz105_8, hfz105_9⟩ := froz_10 BK195.out
              go_wp2
              refine bodyPost_ret (results_ct rfl _ _ gb195 31 #[.int .i64 x197000_1, .int .i64 x197001_1, .int .i64 x197002_1, .float .f64 x197003_1, .string x197004_1, .int .i64 x197005_1, .int .i64 x197006_1, .float .f64 x197007_1, .string x197008_1, .slice none 0 0] (0, 0) _ rfl (by (with_reducible repeat (first | refine blk_drewN ?_ _ | refine blk_drew ?_ | refine blk_alloc ?_ _)); refine blk_put (cs := #[.int .i64 x197000_1, .int .i64 x197001_1, .int .i64 x197002_1, .float .f64 x197003_1, .string x197004_1, .int .i64 x197005_1, .int .i64 x197006_1, .float .f64 x197007_1, .string x197008_1, .slice none 0 0]) ?_ 9 _ rfl; (with_reducible repeat (first | refine blk_drewN ?_ _ | refine blk_drew ?_ | refine blk_alloc ?_ _)); refine blk_put (cs := #[.int .i64 x197000_1, .int .i64 x197001_1, .int .i64 x197002_1, .float .f64 x197003_1, .string x197004_1, .int .i64 x197005_1, .int .i64 x197006_1, .float .f64 x197007_1, .string x196008_1, .slice none 0 0]) ?_ 8 _ rfl; (with_reducible repeat (first | refine blk_drewN ?_ _ | refine blk_drew ?_ | refine blk_alloc ?_ _)); refine blk_put (cs := #[.int .i64 x197000_1, .int .i64 x197001_1, .int .i64 x197002_1, .float .f64 x197003_1, .string x197004_1, .int .i64 x197005_1, .int .i64 x197006_1, .float .f64 x196007_1, .string x196008_1, .slice none 0 0]) ?_ 7 _ rfl; (with_reducible repeat (first | refine blk_drewN ?_ _ | refine blk_drew ?_ | refine blk_alloc ?_ _)); refine blk_put (cs := #[.int .i64 x197000_1, .int .i64 x197001_1, .int .i64 x197002_1, .float .f64 x197003_1, .string x197004_1, .int .i64 x197005_1, .int .i64 x196006_1, .float .f64 x196007_1, .string x196008_1, .slice none 0 0]) ?_ 6 _ rfl; (with_reducible repeat (first | refine blk_drewN ?_ _ | refine blk_drew ?_ | refine blk_alloc ?_ _)); refine blk_put (cs := #[.int .i64 x197000_1, .int .i64 x197001_1, .int .i64 x197002_1, .float .f64 x197003_1, .string x197004_1, .int .i64 x196005_1, .int .i64 x196006_1, .float .f64 x196007_1, .string x196008_1, .slice none 0 0]) ?_ 5 _ rfl; (with_reducible repeat (first | refine blk_drewN ?_ _ | refine blk_drew ?_ | refine blk_alloc ?_ _)); refine blk_put (cs := #[.int .i64 x197000_1, .int .i64 x197001_1, .int .i64 x197002_1, .float .f64 x197003_1, .string x196004_1, .int .i64 x196005_1, .int .i64 x196006_1, .float .f64 x196007_1, .string x196008_1, .slice none 0 0]) ?_ 4 _ rfl; (with_reducible repeat (first | refine blk_drewN ?_ _ | refine blk_drew ?_ | refine blk_alloc ?_ _)); refine blk_put (cs := #[.int .i64 x197000_1, .int .i64 x197001_1, .int .i64 x197002_1, .float .f64 x196003_1, .string x196004_1, .int .i64 x196005_1, .int .i64 x196006_1, .float .f64 x196007_1, .string x196008_1, .slice none 0 0]) ?_ 3 _ rfl; (with_reducible repeat (first | refine blk_drewN ?_ _ | refine blk_drew ?_ | refine blk_alloc ?_ _)); refine blk_put (cs := #[.int .i64 x197000_1, .int .i64 x197001_1, .int .i64 x196002_1, .float .f64 x196003_1, .string x196004_1, .int .i64 x196005_1, .int .i64 x196006_1, .float .f64 x196007_1, .string x196008_1, .slice none 0 0]) ?_ 2 _ rfl; (with_reducible repeat (first | refine blk_drewN ?_ _ | refine blk_drew ?_ | refine blk_alloc ?_ _)); refine blk_put (cs := #[.int .i64 x197000_1, .int .i64 x196001_1, .int .i64 x196002_1, .float .f64 x196003_1, .string x196004_1, .int .i64 x196005_1, .int .i64 x196006_1, .float .f64 x196007_1, .string x196008_1, .slice none 0 0]) ?_ 1 _ rfl; (with_reducible repeat (first | refine blk_drewN ?_ _ | refine blk_drew ?_ | refine blk_alloc ?_ _)); refine blk_put (cs := #[.int .i64 x196000_1, .int .i64 x196001_1, .int .i64 x196002_1, .float .f64 x196003_1, .string x196004_1, .int .i64 x196005_1, .int .i64 x196006_1, .float .f64 x196007_1, .string x196008_1, .slice none 0 0]) ?_ 0 _ rfl; (with_reducible repeat (first | refine blk_drewN ?_ _ | refine blk_drew ?_ | refine blk_alloc ?_ _)); exact BK195.out) Try.underlying31 rfl (by kernel_rfl)) rfl ?_
              exact ⟨_, by first | rfl | (simp [errW_none, errW_some] <;> rfl) | (simp [*, errW_none, errW_some] <;> rfl), by first | exact Kd.R_nil _ _ _ _ _ | exact Kd.N_nil _ _ _ _ _ | exact Kd.V_nil _ _ _ _ _ | exact Kd.Q_nil _ _ _ _ _ | exact Kd.S_nil _ _ _ _ _, bel0⟩
            · rw [if_neg c100] at H
              have c100b0 : (a2 == 0) = false := beq_eq_false_iff_ne.mpr c100
              have c100b1 : (a2 != 0) = true := bne_iff_ne.mpr c100
              replace H := Option.bind_eq_some_iff.mp H
              obtain ⟨⟨t216, t217⟩, A1060, H⟩ := H
              (try dsimp only at H)
              have A106 := Aside0.mk A1060
              clear A1060
              by_cases c107 : t217 = 0
              · rw [if_pos c107] at H
                have c107b0 : (t217 == 0) = true := beq_iff_eq.mpr c107
                have c107b1 : (t217 != 0) = false := bne_eq_false_iff_eq.mpr c107
                clear c107
                simp only [Option.some.injEq, Prod.mk.injEq] at H
                obtain ⟨rfl, rfl, rfl, rfl, rfl, rfl, rfl, rfl, rfl, rfl, rfl⟩ := H
                obtain ⟨Ao108, co108, eo108⟩ := Kd.R_slice HO_9.out
                subst eo108
                go_wp2_with (first | ((with_reducible refine gate_callee (f := 47) rfl ?_); refine goesQ 95 Try.func47 #[.int .i64 a2, .slice Ao108 x9_1.length co108] ?_; (with_reducible refine (colonnaderef13_Build.calls k1 a2 _ _ x9_1 t216 t217 _ ?side1 ?side2 A106.out).mono ?_); (case side1 => repeat (first | exact (Kd.R_reads' HO_9.out).2.2 | (with_reducible refine Kd.C_alloc ?_ _) | (with_reducible refine Kd.C_drewN ?_ _) | (with_reducible refine Kd.C_drew ?_))); (case side2 => exact (Kd.R_reads' HO_9.out).2.1); rintro e w109 ⟨v218, rfl, ho0, hb⟩; refine ⟨_, rfl, ?_⟩; have n0_ := Aside0.mk (Kd.R_below (row0 HO_9) hb); have n1_ := Aside0.mk (Kd.R_lower ho0 (below_size bel0)); have n2_ := blkS BK194 hb; have n3_ := blkS BK195 hb; have n4_ := blkS BK196 hb; have n5_ := Aside0.mk (below_step bel0 hb); clear HO_9; clear BK194; clear BK195; clear BK196; clear HB; have HO_9 := n0_; have HO219 := n1_; have BK194 := n2_; have BK195 := n3_; have BK196 := n4_; have HB := n5_; clear n0_ n1_ n2_ n3_ n4_ n5_; (try clear hb); (try clear hb2); (try clear hk); (try clear hi); (try clear ho0); obtain ⟨Ao110, co110, eo110⟩ := Kd.R_slice HO219.out; subst eo110; have hnb111 := NB196_194.out; have hnc111 := NB194_196.out; have hnb112 := NB196_195.out; have hnc112 := NB195_196.out; obtain ⟨hcz113_0, hcz113_1, hcz113_2, hcz113_3, hcz113_4, hcz113_5, hcz113_6, hcz113_7, hcz113_8, hcz113_9⟩ := cells_10 BK196.out; obtain ⟨hfz113_0, hfz113_1, hfz113_2, hfz113_3, hfz113_4, hfz113_5, hfz113_6, hfz113_7, hfz113_8, hfz113_9⟩ := froz_10 BK196.out; have hnb114 := NB195_194.out; have hnc114 := NB194_195.out; obtain ⟨hcz115_0, hcz115_1, hcz115_2, hcz115_3, hcz115_4, hcz115_5, hcz115_6, hcz115_7, hcz115_8, hcz115_9⟩ := cells_10 BK195.out; obtain ⟨hfz115_0, hfz115_1, hfz115_2, hfz115_3, hfz115_4, hfz115_5, hfz115_6, hfz115_7, hfz115_8, hfz115_9⟩ := froz_10 BK195.out))
                refine bodyPost_ret (results_ct rfl _ _ gb195 31 #[.int .i64 x197000_1, .int .i64 x197001_1, .int .i64 x197002_1, .float .f64 x197003_1, .string x197004_1, .int .i64 x197005_1, .int .i64 x197006_1, .float .f64 x197007_1, .string x197008_1, .slice Ao110 t216.length co110] (0, 0) _ rfl (by (with_reducible repeat (first | refine blk_drewN ?_ _ | refine blk_drew ?_ | refine blk_alloc ?_ _)); refine blk_put (cs := #[.int .i64 x197000_1, .int .i64 x197001_1, .int .i64 x197002_1, .float .f64 x197003_1, .string x197004_1, .int .i64 x197005_1, .int .i64 x197006_1, .float .f64 x197007_1, .string x197008_1, .slice none 0 0]) ?_ 9 _ rfl; (with_reducible repeat (first | refine blk_drewN ?_ _ | refine blk_drew ?_ | refine blk_alloc ?_ _)); refine blk_put (cs := #[.int .i64 x197000_1, .int .i64 x197001_1, .int .i64 x197002_1, .float .f64 x197003_1, .string x197004_1, .int .i64 x197005_1, .int .i64 x197006_1, .float .f64 x197007_1, .string x196008_1, .slice none 0 0]) ?_ 8 _ rfl; (with_reducible repeat (first | refine blk_drewN ?_ _ | refine blk_drew ?_ | refine blk_alloc ?_ _)); refine blk_put (cs := #[.int .i64 x197000_1, .int .i64 x197001_1, .int .i64 x197002_1, .float .f64 x197003_1, .string x197004_1, .int .i64 x197005_1, .int .i64 x197006_1, .float .f64 x196007_1, .string x196008_1, .slice none 0 0]) ?_ 7 _ rfl; (with_reducible repeat (first | refine blk_drewN ?_ _ | refine blk_drew ?_ | refine blk_alloc ?_ _)); refine blk_put (cs := #[.int .i64 x197000_1, .int .i64 x197001_1, .int .i64 x197002_1, .float .f64 x197003_1, .string x197004_1, .int .i64 x197005_1, .int .i64 x196006_1, .float .f64 x196007_1, .string x196008_1, .slice none 0 0]) ?_ 6 _ rfl; (with_reducible repeat (first | refine blk_drewN ?_ _ | refine blk_drew ?_ | refine blk_alloc ?_ _)); refine blk_put (cs := #[.int .i64 x197000_1, .int .i64 x197001_1, .int .i64 x197002_1, .float .f64 x197003_1, .string x197004_1, .int .i64 x196005_1, .int .i64 x196006_1, .float .f64 x196007_1, .string x196008_1, .slice none 0 0]) ?_ 5 _ rfl; (with_reducible repeat (first | refine blk_drewN ?_ _ | refine blk_drew ?_ | refine blk_alloc ?_ _)); refine blk_put (cs := #[.int .i64 x197000_1, .int .i64 x197001_1, .int .i64 x197002_1, .float .f64 x197003_1, .string x196004_1, .int .i64 x196005_1, .int .i64 x196006_1, .float .f64 x196007_1, .string x196008_1, .slice none 0 0]) ?_ 4 _ rfl; (with_reducible repeat (first | refine blk_drewN ?_ _ | refine blk_drew ?_ | refine blk_alloc ?_ _)); refine blk_put (cs := #[.int .i64 x197000_1, .int .i64 x197001_1, .int .i64 x197002_1, .float .f64 x196003_1, .string x196004_1, .int .i64 x196005_1, .int .i64 x196006_1, .float .f64 x196007_1, .string x196008_1, .slice none 0 0]) ?_ 3 _ rfl; (with_reducible repeat (first | refine blk_drewN ?_ _ | refine blk_drew ?_ | refine blk_alloc ?_ _)); refine blk_put (cs := #[.int .i64 x197000_1, .int .i64 x197001_1, .int .i64 x196002_1, .float .f64 x196003_1, .string x196004_1, .int .i64 x196005_1, .int .i64 x196006_1, .float .f64 x196007_1, .string x196008_1, .slice none 0 0]) ?_ 2 _ rfl; (with_reducible repeat (first | refine blk_drewN ?_ _ | refine blk_drew ?_ | refine blk_alloc ?_ _)); refine blk_put (cs := #[.int .i64 x197000_1, .int .i64 x196001_1, .int .i64 x196002_1, .float .f64 x196003_1, .string x196004_1, .int .i64 x196005_1, .int .i64 x196006_1, .float .f64 x196007_1, .string x196008_1, .slice none 0 0]) ?_ 1 _ rfl; (with_reducible repeat (first | refine blk_drewN ?_ _ | refine blk_drew ?_ | refine blk_alloc ?_ _)); refine blk_put (cs := #[.int .i64 x196000_1, .int .i64 x196001_1, .int .i64 x196002_1, .float .f64 x196003_1, .string x196004_1, .int .i64 x196005_1, .int .i64 x196006_1, .float .f64 x196007_1, .string x196008_1, .slice none 0 0]) ?_ 0 _ rfl; (with_reducible repeat (first | refine blk_drewN ?_ _ | refine blk_drew ?_ | refine blk_alloc ?_ _)); refine blk_far ?_ NB195_196.out _; (with_reducible repeat (first | refine blk_drewN ?_ _ | refine blk_drew ?_ | refine blk_alloc ?_ _)); exact BK195.out) Try.underlying31 rfl (by kernel_rfl)) rfl ?_
                exact ⟨_, by first | rfl | (simp [errW_none, errW_some] <;> rfl) | (simp [*, errW_none, errW_some] <;> rfl), by (with_reducible repeat (first | apply Kd.R_alloc | apply Kd.R_drewN | apply Kd.R_drew)); exact Kd.R_mono (Kd.R_far (p := ⟨gb195, 9, none⟩) (Kd.R_far (p := ⟨gb195, 8, none⟩) (Kd.R_far (p := ⟨gb195, 7, none⟩) (Kd.R_far (p := ⟨gb195, 6, none⟩) (Kd.R_far (p := ⟨gb195, 5, none⟩) (Kd.R_far (p := ⟨gb195, 4, none⟩) (Kd.R_far (p := ⟨gb195, 3, none⟩) (Kd.R_far (p := ⟨gb195, 2, none⟩) (Kd.R_far (p := ⟨gb195, 1, none⟩) (Kd.R_far (p := ⟨gb195, 0, none⟩) (Kd.R_far (p := ⟨gb196, 9, none⟩) (Kd.R_types (Kd.R_types HO219.out BK196.out (by decide)) BK195.out (by decide)) (fun _ hk => hk.1.2) (.slice Ao110 t216.length co110)) (fun _ hk => hk.2) (.int .i64 x197000_1)) (fun _ hk => hk.2) (.int .i64 x197001_1)) (fun _ hk => hk.2) (.int .i64 x197002_1)) (fun _ hk => hk.2) (.float .f64 x197003_1)) (fun _ hk => hk.2) (.string x197004_1)) (fun _ hk => hk.2) (.int .i64 x197005_1)) (fun _ hk => hk.2) (.int .i64 x197006_1)) (fun _ hk => hk.2) (.float .f64 x197007_1)) (fun _ hk => hk.2) (.string x197008_1)) (fun _ hk => hk.2) (.slice Ao110 t216.length co110)) (fun _ hk => trivial), bel0⟩
              · rw [if_neg c107] at H
                have c107b0 : (t217 == 0) = false := beq_eq_false_iff_ne.mpr c107
                have c107b1 : (t217 != 0) = true := bne_iff_ne.mpr c107
                simp only [Option.some.injEq, Prod.mk.injEq] at H
                obtain ⟨rfl, rfl, rfl, rfl, rfl, rfl, rfl, rfl, rfl, rfl, rfl⟩ := H
                obtain ⟨Ao116, co116, eo116⟩ := Kd.R_slice HO_9.out
                subst eo116
                go_wp2_with (first | ((with_reducible refine gate_callee (f := 47) rfl ?_); refine goesQ 95 Try.func47 #[.int .i64 a2, .slice Ao116 x9_1.length co116] ?_; (with_reducible refine (colonnaderef13_Build.calls k1 a2 _ _ x9_1 t216 t217 _ ?side1 ?side2 A106.out).mono ?_); (case side1 => repeat (first | exact (Kd.R_reads' HO_9.out).2.2 | (with_reducible refine Kd.C_alloc ?_ _) | (with_reducible refine Kd.C_drewN ?_ _) | (with_reducible refine Kd.C_drew ?_))); (case side2 => exact (Kd.R_reads' HO_9.out).2.1); rintro e w117 ⟨v218, rfl, ho0, hb⟩; refine ⟨_, rfl, ?_⟩; have n0_ := Aside0.mk (Kd.R_below (row0 HO_9) hb); have n1_ := Aside0.mk (Kd.R_lower ho0 (below_size bel0)); have n2_ := blkS BK194 hb; have n3_ := blkS BK195 hb; have n4_ := blkS BK196 hb; have n5_ := Aside0.mk (below_step bel0 hb); clear HO_9; clear BK194; clear BK195; clear BK196; clear HB; have HO_9 := n0_; have HO219 := n1_; have BK194 := n2_; have BK195 := n3_; have BK196 := n4_; have HB := n5_; clear n0_ n1_ n2_ n3_ n4_ n5_; (try clear hb); (try clear hb2); (try clear hk); (try clear hi); (try clear ho0); have hnb118 := NB195_194.out; have hnc118 := NB194_195.out; have hnb119 := NB195_196.out; have hnc119 := NB196_195.out; obtain ⟨hcz120_0, hcz120_1, hcz120_2, hcz120_3, hcz120_4, hcz120_5, hcz120_6, hcz120_7, hcz120_8, hcz120_9⟩ := cells_10 BK195.out; obtain ⟨hfz120_0, hfz120_1, hfz120_2, hfz120_3, hfz120_4, hfz120_5, hfz120_6, hfz120_7, hfz120_8, hfz120_9⟩ := froz_10 BK195.out))
                refine bodyPost_ret (results_ct rfl _ _ gb195 31 #[.int .i64 0, .int .i64 0, .int .i64 0, .float .f64 (0 : Nat), .string (⟨#[]⟩ : ByteArray), .int .i64 0, .int .i64 0, .float .f64 (0 : Nat), .string (⟨#[]⟩ : ByteArray), .slice none 0 0] (0, 0) _ rfl (by (with_reducible repeat (first | refine blk_drewN ?_ _ | refine blk_drew ?_ | refine blk_alloc ?_ _)); refine blk_put (cs := #[.int .i64 0, .int .i64 0, .int .i64 0, .float .f64 (0 : Nat), .string (⟨#[]⟩ : ByteArray), .int .i64 0, .int .i64 0, .float .f64 (0 : Nat), .string (⟨#[]⟩ : ByteArray), .slice none 0 0]) ?_ 9 _ rfl; (with_reducible repeat (first | refine blk_drewN ?_ _ | refine blk_drew ?_ | refine blk_alloc ?_ _)); refine blk_put (cs := #[.int .i64 0, .int .i64 0, .int .i64 0, .float .f64 (0 : Nat), .string (⟨#[]⟩ : ByteArray), .int .i64 0, .int .i64 0, .float .f64 (0 : Nat), .string x196008_1, .slice none 0 0]) ?_ 8 _ rfl; (with_reducible repeat (first | refine blk_drewN ?_ _ | refine blk_drew ?_ | refine blk_alloc ?_ _)); refine blk_put (cs := #[.int .i64 0, .int .i64 0, .int .i64 0, .float .f64 (0 : Nat), .string (⟨#[]⟩ : ByteArray), .int .i64 0, .int .i64 0, .float .f64 x196007_1, .string x196008_1, .slice none 0 0]) ?_ 7 _ rfl; (with_reducible repeat (first | refine blk_drewN ?_ _ | refine blk_drew ?_ | refine blk_alloc ?_ _)); refine blk_put (cs := #[.int .i64 0, .int .i64 0, .int .i64 0, .float .f64 (0 : Nat), .string (⟨#[]⟩ : ByteArray), .int .i64 0, .int .i64 x196006_1, .float .f64 x196007_1, .string x196008_1, .slice none 0 0]) ?_ 6 _ rfl; (with_reducible repeat (first | refine blk_drewN ?_ _ | refine blk_drew ?_ | refine blk_alloc ?_ _)); refine blk_put (cs := #[.int .i64 0, .int .i64 0, .int .i64 0, .float .f64 (0 : Nat), .string (⟨#[]⟩ : ByteArray), .int .i64 x196005_1, .int .i64 x196006_1, .float .f64 x196007_1, .string x196008_1, .slice none 0 0]) ?_ 5 _ rfl; (with_reducible repeat (first | refine blk_drewN ?_ _ | refine blk_drew ?_ | refine blk_alloc ?_ _)); refine blk_put (cs := #[.int .i64 0, .int .i64 0, .int .i64 0, .float .f64 (0 : Nat), .string x196004_1, .int .i64 x196005_1, .int .i64 x196006_1, .float .f64 x196007_1, .string x196008_1, .slice none 0 0]) ?_ 4 _ rfl; (with_reducible repeat (first | refine blk_drewN ?_ _ | refine blk_drew ?_ | refine blk_alloc ?_ _)); refine blk_put (cs := #[.int .i64 0, .int .i64 0, .int .i64 0, .float .f64 x196003_1, .string x196004_1, .int .i64 x196005_1, .int .i64 x196006_1, .float .f64 x196007_1, .string x196008_1, .slice none 0 0]) ?_ 3 _ rfl; (with_reducible repeat (first | refine blk_drewN ?_ _ | refine blk_drew ?_ | refine blk_alloc ?_ _)); refine blk_put (cs := #[.int .i64 0, .int .i64 0, .int .i64 x196002_1, .float .f64 x196003_1, .string x196004_1, .int .i64 x196005_1, .int .i64 x196006_1, .float .f64 x196007_1, .string x196008_1, .slice none 0 0]) ?_ 2 _ rfl; (with_reducible repeat (first | refine blk_drewN ?_ _ | refine blk_drew ?_ | refine blk_alloc ?_ _)); refine blk_put (cs := #[.int .i64 0, .int .i64 x196001_1, .int .i64 x196002_1, .float .f64 x196003_1, .string x196004_1, .int .i64 x196005_1, .int .i64 x196006_1, .float .f64 x196007_1, .string x196008_1, .slice none 0 0]) ?_ 1 _ rfl; (with_reducible repeat (first | refine blk_drewN ?_ _ | refine blk_drew ?_ | refine blk_alloc ?_ _)); refine blk_put (cs := #[.int .i64 x196000_1, .int .i64 x196001_1, .int .i64 x196002_1, .float .f64 x196003_1, .string x196004_1, .int .i64 x196005_1, .int .i64 x196006_1, .float .f64 x196007_1, .string x196008_1, .slice none 0 0]) ?_ 0 _ rfl; (with_reducible repeat (first | refine blk_drewN ?_ _ | refine blk_drew ?_ | refine blk_alloc ?_ _)); exact BK195.out) Try.underlying31 rfl (by kernel_rfl)) rfl ?_
                exact ⟨_, by first | rfl | (simp [errW_none, errW_some] <;> rfl) | (simp [*, errW_none, errW_some] <;> rfl), by first | exact Kd.R_nil _ _ _ _ _ | exact Kd.N_nil _ _ _ _ _ | exact Kd.V_nil _ _ _ _ _ | exact Kd.Q_nil _ _ _ _ _ | exact Kd.S_nil _ _ _ _ _, bel0⟩
  · replace c5 := Bool.eq_false_iff.mpr c5
    subst c5
    rw [if_neg (show ¬ (false = true) by decide)] at H
    simp only [Option.some.injEq, Prod.mk.injEq] at H
    obtain ⟨rfl, rfl, rfl, rfl, rfl, rfl, rfl, rfl, rfl, rfl, rfl⟩ := H
    go_enter Try.func13, Try.ntmps13
    go_wp2_with (first | ((with_reducible refine gate_dst (N := 3) rfl ?_); refine box_event ?hg (N := 3) ?hd (cs := #[.string a0_0, .int .i64 a0_1, .bool a0_2]) (t := 23) ?hr ?_; (case hd => rfl); (case hg => rfl); (case hr => first | (go_simp; done) | (go_simp; rfl)); intro gb194 hg w121 hbox hb; have n0_ := Aside0.mk (below_step bel0 hb); have n1_ := Aside0.mk (hbox); have n2_ := Aside0.mk ((by rw [hg]; exact (below_size bel0) : w.heap.size ≤ gb194)); have n3_ := Aside0.mk ((by rw [hg]; exact (below_size bel0) : w.heap.size ≤ gb194)); clear HB; have HB := n0_; have BK194 := n1_; have GW194 := n2_; have GE194 := n3_; clear n0_ n1_ n2_ n3_; clear hb hbox hg) | ((with_reducible refine gate_dst (N := 6) rfl ?_); refine box_event ?hg (N := 6) ?hd (cs := #[.int .i64 0, .int .i64 0, .int .i64 0, .float .f64 (0 : Nat), .string (⟨#[]⟩ : ByteArray), .int .i64 0, .int .i64 0, .float .f64 (0 : Nat), .string (⟨#[]⟩ : ByteArray), .slice none 0 0]) (t := 31) ?hr ?_; (case hd => rfl); (case hg => rfl); (case hr => first | (go_simp; done) | (go_simp; rfl)); intro gb195 hg w122 hbox hb; have n0_ := blkS BK194 hb; have n1_ := Aside0.mk (below_step bel0 hb); have n2_ := Aside0.mk (hbox); have n3_ := Aside0.mk ((by rw [hg]; exact (below_size bel0) : w.heap.size ≤ gb195)); have n4_ := Aside0.mk ((by rw [hg]; exact (below_size bel0) : w.heap.size ≤ gb195)); have n5_ := Aside0.mk ((by rw [hg]; exact Nat.ne_of_lt (blk_lt (g := gb194) (o := .cells #[.string a0_0, .int .i64 a0_1, .bool a0_2] 23 (0, 0)) (blk0 BK194)) : gb194 ≠ gb195)); have n6_ := Aside0.mk ((by rw [hg]; exact Nat.ne_of_gt (blk_lt (g := gb194) (o := .cells #[.string a0_0, .int .i64 a0_1, .bool a0_2] 23 (0, 0)) (blk0 BK194)) : gb195 ≠ gb194)); clear BK194; clear HB; have BK194 := n0_; have HB := n1_; have BK195 := n2_; have GW195 := n3_; have GE195 := n4_; have NB194_195 := n5_; have NB195_194 := n6_; clear n0_ n1_ n2_ n3_ n4_ n5_ n6_; clear hb hbox hg) | ((with_reducible refine gate_dst (N := 8) rfl ?_); refine box_event ?hg (N := 8) ?hd (cs := #[.int .i64 0, .int .i64 0, .int .i64 0, .float .f64 (0 : Nat), .string (⟨#[]⟩ : ByteArray), .int .i64 0, .int .i64 0, .float .f64 (0 : Nat), .string (⟨#[]⟩ : ByteArray), .slice none 0 0]) (t := 31) ?hr ?_; (case hd => rfl); (case hg => rfl); (case hr => first | (go_simp; done) | (go_simp; rfl)); intro gb196 hg w123 hbox hb; have n0_ := blkS BK194 hb; have n1_ := blkS BK195 hb; have n2_ := Aside0.mk (below_step bel0 hb); have n3_ := Aside0.mk (hbox); have n4_ := Aside0.mk ((by rw [hg]; exact (below_size bel0) : w.heap.size ≤ gb196)); have n5_ := Aside0.mk ((by rw [hg]; exact (below_size bel0) : w.heap.size ≤ gb196)); have n6_ := Aside0.mk ((by rw [hg]; exact Nat.ne_of_lt (blk_lt (g := gb194) (o := .cells #[.string a0_0, .int .i64 a0_1, .bool a0_2] 23 (0, 0)) (blk0 BK194)) : gb194 ≠ gb196)); have n7_ := Aside0.mk ((by rw [hg]; exact Nat.ne_of_gt (blk_lt (g := gb194) (o := .cells #[.string a0_0, .int .i64 a0_1, .bool a0_2] 23 (0, 0)) (blk0 BK194)) : gb196 ≠ gb194)); have n8_ := Aside0.mk ((by rw [hg]; exact Nat.ne_of_lt (blk_lt (g := gb195) (o := .cells #[.int .i64 0, .int .i64 0, .int .i64 0, .float .f64 (0 : Nat), .string (⟨#[]⟩ : ByteArray), .int .i64 0, .int .i64 0, .float .f64 (0 : Nat), .string (⟨#[]⟩ : ByteArray), .slice none 0 0] 31 (0, 0)) (blk0 BK195)) : gb195 ≠ gb196)); have n9_ := Aside0.mk ((by rw [hg]; exact Nat.ne_of_gt (blk_lt (g := gb195) (o := .cells #[.int .i64 0, .int .i64 0, .int .i64 0, .float .f64 (0 : Nat), .string (⟨#[]⟩ : ByteArray), .int .i64 0, .int .i64 0, .float .f64 (0 : Nat), .string (⟨#[]⟩ : ByteArray), .slice none 0 0] 31 (0, 0)) (blk0 BK195)) : gb196 ≠ gb195)); clear BK194; clear BK195; clear HB; have BK194 := n0_; have BK195 := n1_; have HB := n2_; have BK196 := n3_; have GW196 := n4_; have GE196 := n5_; have NB194_196 := n6_; have NB196_194 := n7_; have NB195_196 := n8_; have NB196_195 := n9_; clear n0_ n1_ n2_ n3_ n4_ n5_ n6_ n7_ n8_ n9_; clear hb hbox hg; have hnb124 := NB194_195.out; have hnc124 := NB195_194.out; have hnb125 := NB194_196.out; have hnc125 := NB196_194.out; obtain ⟨hcz126_0, hcz126_1, hcz126_2⟩ := cells_3 BK194.out; obtain ⟨hfz126_0, hfz126_1, hfz126_2⟩ := froz_3 BK194.out) | ((with_reducible refine gate_callee (f := 44) rfl ?_); refine goesQ 15 Try.func44 #[.agg #[.string a0_0, .int .i64 a0_1, .bool a0_2]] ?_; (with_reducible refine (colonnaderef14_typed.calls a0_0 a0_1 a0_2 false _ A4.out).mono ?_); rintro e w127 ⟨rfl, hb⟩; refine ⟨_, rfl, ?_⟩; have n0_ := blkS BK194 hb; have n1_ := blkS BK195 hb; have n2_ := blkS BK196 hb; have n3_ := Aside0.mk (below_step bel0 hb); clear BK194; clear BK195; clear BK196; clear HB; have BK194 := n0_; have BK195 := n1_; have BK196 := n2_; have HB := n3_; clear n0_ n1_ n2_ n3_; (try clear hb); (try clear hb2); (try clear hk); (try clear hi); have hnb128 := NB196_195.out; have hnc128 := NB195_196.out; obtain ⟨hcz129_0, hcz129_1, hcz129_2, hcz129_3, hcz129_4, hcz129_5, hcz129_6, hcz129_7, hcz129_8, hcz129_9⟩ := cells_10 BK196.out; obtain ⟨hfz129_0, hfz129_1, hfz129_2, hfz129_3, hfz129_4, hfz129_5, hfz129_6, hfz129_7, hfz129_8, hfz129_9⟩ := froz_10 BK196.out; obtain ⟨hcz130_0, hcz130_1, hcz130_2, hcz130_3, hcz130_4, hcz130_5, hcz130_6, hcz130_7, hcz130_8, hcz130_9⟩ := cells_10 BK195.out; obtain ⟨hfz130_0, hfz130_1, hfz130_2, hfz130_3, hfz130_4, hfz130_5, hfz130_6, hfz130_7, hfz130_8, hfz130_9⟩ := froz_10 BK195.out))
    refine bodyPost_ret (results_ct rfl _ _ gb195 31 #[.int .i64 0, .int .i64 0, .int .i64 0, .float .f64 (0 : Nat), .string (⟨#[]⟩ : ByteArray), .int .i64 0, .int .i64 0, .float .f64 (0 : Nat), .string (⟨#[]⟩ : ByteArray), .slice none 0 0] (0, 0) _ rfl (by (with_reducible repeat (first | refine blk_drewN ?_ _ | refine blk_drew ?_ | refine blk_alloc ?_ _)); refine blk_put (cs := #[.int .i64 0, .int .i64 0, .int .i64 0, .float .f64 (0 : Nat), .string (⟨#[]⟩ : ByteArray), .int .i64 0, .int .i64 0, .float .f64 (0 : Nat), .string (⟨#[]⟩ : ByteArray), .slice none 0 0]) ?_ 9 _ rfl; (with_reducible repeat (first | refine blk_drewN ?_ _ | refine blk_drew ?_ | refine blk_alloc ?_ _)); refine blk_put (cs := #[.int .i64 0, .int .i64 0, .int .i64 0, .float .f64 (0 : Nat), .string (⟨#[]⟩ : ByteArray), .int .i64 0, .int .i64 0, .float .f64 (0 : Nat), .string (⟨#[]⟩ : ByteArray), .slice none 0 0]) ?_ 8 _ rfl; (with_reducible repeat (first | refine blk_drewN ?_ _ | refine blk_drew ?_ | refine blk_alloc ?_ _)); refine blk_put (cs := #[.int .i64 0, .int .i64 0, .int .i64 0, .float .f64 (0 : Nat), .string (⟨#[]⟩ : ByteArray), .int .i64 0, .int .i64 0, .float .f64 (0 : Nat), .string (⟨#[]⟩ : ByteArray), .slice none 0 0]) ?_ 7 _ rfl; (with_reducible repeat (first | refine blk_drewN ?_ _ | refine blk_drew ?_ | refine blk_alloc ?_ _)); refine blk_put (cs := #[.int .i64 0, .int .i64 0, .int .i64 0, .float .f64 (0 : Nat), .string (⟨#[]⟩ : ByteArray), .int .i64 0, .int .i64 0, .float .f64 (0 : Nat), .string (⟨#[]⟩ : ByteArray), .slice none 0 0]) ?_ 6 _ rfl; (with_reducible repeat (first | refine blk_drewN ?_ _ | refine blk_drew ?_ | refine blk_alloc ?_ _)); refine blk_put (cs := #[.int .i64 0, .int .i64 0, .int .i64 0, .float .f64 (0 : Nat), .string (⟨#[]⟩ : ByteArray), .int .i64 0, .int .i64 0, .float .f64 (0 : Nat), .string (⟨#[]⟩ : ByteArray), .slice none 0 0]) ?_ 5 _ rfl; (with_reducible repeat (first | refine blk_drewN ?_ _ | refine blk_drew ?_ | refine blk_alloc ?_ _)); refine blk_put (cs := #[.int .i64 0, .int .i64 0, .int .i64 0, .float .f64 (0 : Nat), .string (⟨#[]⟩ : ByteArray), .int .i64 0, .int .i64 0, .float .f64 (0 : Nat), .string (⟨#[]⟩ : ByteArray), .slice none 0 0]) ?_ 4 _ rfl; (with_reducible repeat (first | refine blk_drewN ?_ _ | refine blk_drew ?_ | refine blk_alloc ?_ _)); refine blk_put (cs := #[.int .i64 0, .int .i64 0, .int .i64 0, .float .f64 (0 : Nat), .string (⟨#[]⟩ : ByteArray), .int .i64 0, .int .i64 0, .float .f64 (0 : Nat), .string (⟨#[]⟩ : ByteArray), .slice none 0 0]) ?_ 3 _ rfl; (with_reducible repeat (first | refine blk_drewN ?_ _ | refine blk_drew ?_ | refine blk_alloc ?_ _)); refine blk_put (cs := #[.int .i64 0, .int .i64 0, .int .i64 0, .float .f64 (0 : Nat), .string (⟨#[]⟩ : ByteArray), .int .i64 0, .int .i64 0, .float .f64 (0 : Nat), .string (⟨#[]⟩ : ByteArray), .slice none 0 0]) ?_ 2 _ rfl; (with_reducible repeat (first | refine blk_drewN ?_ _ | refine blk_drew ?_ | refine blk_alloc ?_ _)); refine blk_put (cs := #[.int .i64 0, .int .i64 0, .int .i64 0, .float .f64 (0 : Nat), .string (⟨#[]⟩ : ByteArray), .int .i64 0, .int .i64 0, .float .f64 (0 : Nat), .string (⟨#[]⟩ : ByteArray), .slice none 0 0]) ?_ 1 _ rfl; (with_reducible repeat (first | refine blk_drewN ?_ _ | refine blk_drew ?_ | refine blk_alloc ?_ _)); refine blk_put (cs := #[.int .i64 0, .int .i64 0, .int .i64 0, .float .f64 (0 : Nat), .string (⟨#[]⟩ : ByteArray), .int .i64 0, .int .i64 0, .float .f64 (0 : Nat), .string (⟨#[]⟩ : ByteArray), .slice none 0 0]) ?_ 0 _ rfl; (with_reducible repeat (first | refine blk_drewN ?_ _ | refine blk_drew ?_ | refine blk_alloc ?_ _)); exact BK195.out) Try.underlying31 rfl (by kernel_rfl)) rfl ?_
    exact ⟨_, by first | rfl | (simp [errW_none, errW_some] <;> rfl) | (simp [*, errW_none, errW_some] <;> rfl), by first | exact Kd.R_nil _ _ _ _ _ | exact Kd.N_nil _ _ _ _ _ | exact Kd.V_nil _ _ _ _ _ | exact Kd.Q_nil _ _ _ _ _ | exact Kd.S_nil _ _ _ _ _, bel0⟩

end Go.Proofs.Ythiidgmemoineaa.Pa
