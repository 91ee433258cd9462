/- The texts of ZoneSounds, merged: part 25. -/
import Derived.Test.YthiidgmemoineaaQZoneSounds6
import Derived.Test.YthiidgmemoineaaQZoneSounds8
import Derived.Test.YthiidgmemoineaaQZoneSounds24
import Derived.Test.YthiidgmemoineaaQZoneSounds10
import Derived.Test.YthiidgmemoineaaQZoneSounds23
-- Written by xprint.py, a program of this session, over the kit's print. Not trusted: Lean checks it.
namespace Go.Proofs.Ythiidgmemoineaa.Pa
open Go.RowKit Go.Proofs.YthiidgmemoineaaW.PrintWords Go.Proofs.YthiidgmemoineaaW.PrintLast Go.Proofs.YthiidgmemoineaaW.PrintMore
attribute [local go_sem] max2_int min2_int max_two min_two max_three min_three max_four min_four   -- for this text's walks alone
attribute [local go_sem] run_store_float cmp_feq cmp_fne cmp_flt cmp_fle cmp_fgt cmp_fge un_fneg equalIn_feq run_fop run_fint run_freal cmp_sgt ext_bits ext_frombits ext_cmpb
set_option linter.unusedVariables false
set_option linter.unusedSimpArgs false

/-! ### colonnaderef14_Sound: function 25 -/
mutual
def colonnaderef14_Sound.j0 : Nat → List (S28) → Bool → ByteArray → Int → Bool → Int → Int → Int → Nat → ByteArray → Int → Int → Nat → ByteArray → List Int → Option (Bool)
  | 0, _, _, _, _, _, _, _, _, _, _, _, _, _, _, _ => none
  | k + 1, x1, x20, x545000, x545001, x545002, x546000, x546001, x546002, x546003, x546004, x546005, x546006, x546007, x546008, x546009 => if x20 = true then (some false) else (colonnaderef14_Sound.l0 k x1 0 0 x545000 x545001 x545002 x546000 x546001 x546002 x546003 x546004 x546005 x546006 x546007 x546008 x546009)
def colonnaderef14_Sound.l0 : Nat → List (S28) → Int → Int → ByteArray → Int → Bool → Int → Int → Int → Nat → ByteArray → Int → Int → Nat → ByteArray → List Int → Option (Bool)
  | 0, _, _, _, _, _, _, _, _, _, _, _, _, _, _, _, _ => none
  | k + 1, x1, x8, x9, x545000, x545001, x545002, x546000, x546001, x546002, x546003, x546004, x546005, x546006, x546007, x546008, x546009 => if x9 < (x1.length : Int) then (if 0 ≤ x9 then ((colonnaderef05_Fits.f k x545000 x545001 x545002 ((rd_T28 x1 x9).f0) ((rd_T28 x1 x9).f1) ((rd_T28 x1 x9).f2) ((rd_T28 x1 x9).f3)).bind fun t549 => (if t549 = true then (if ((rd_T28 x1 x9).f0) = 0 then (colonnaderef14_Sound.l0 k x1 (wrap64 (x8 + 1)) (wrap64 (x9 + 1)) x545000 x545001 x545002 x546000 x546001 x546002 x546003 x546004 x546005 x546006 x546007 x546008 x546009) else ((colonnaderef14_empty.f x546001 x546002 x546003 x546004).bind fun t551 => (if t551 = true then (colonnaderef14_Sound.j2 k x1 x8 x9 true x545000 x545001 x545002 x546000 x546001 x546002 x546003 x546004 x546005 x546006 x546007 x546008 x546009) else ((colonnaderef05_Compare.f k ((rd_T28 x1 x9).f0) ((rd_T28 x1 x9).f1) ((rd_T28 x1 x9).f2) ((rd_T28 x1 x9).f3) x546001 x546002 x546003 x546004).bind fun t553 => (if t553 < 0 then (colonnaderef14_Sound.j2 k x1 x8 x9 true x545000 x545001 x545002 x546000 x546001 x546002 x546003 x546004 x546005 x546006 x546007 x546008 x546009) else ((colonnaderef05_Compare.f k ((rd_T28 x1 x9).f0) ((rd_T28 x1 x9).f1) ((rd_T28 x1 x9).f2) ((rd_T28 x1 x9).f3) x546005 x546006 x546007 x546008).bind fun t555 => (colonnaderef14_Sound.j2 k x1 x8 x9 (decide (t555 > 0)) x545000 x545001 x545002 x546000 x546001 x546002 x546003 x546004 x546005 x546006 x546007 x546008 x546009))))))) else (some false))) else (none)) else (if x8 = x546000 then ((colonnaderef14_empty.f x546001 x546002 x546003 x546004).bind fun t547 => (some (t547 == (x8 == (x1.length : Int))))) else (some false))
def colonnaderef14_Sound.j2 : Nat → List (S28) → Int → Int → Bool → ByteArray → Int → Bool → Int → Int → Int → Nat → ByteArray → Int → Int → Nat → ByteArray → List Int → Option (Bool)
  | 0, _, _, _, _, _, _, _, _, _, _, _, _, _, _, _, _, _ => none
  | k + 1, x1, x8, x9, x65, x545000, x545001, x545002, x546000, x546001, x546002, x546003, x546004, x546005, x546006, x546007, x546008, x546009 => if x65 = true then (some false) else (if (x546009.length : Int) > 0 then (if 0 ≤ x9 then (if x9 < (x1.length : Int) then ((colonnaderef13_Has.f k x546009 ((rd_T28 x1 x9).f0) ((rd_T28 x1 x9).f1) ((rd_T28 x1 x9).f2) ((rd_T28 x1 x9).f3)).bind fun t557 => (if t557 = true then (colonnaderef14_Sound.l0 k x1 x8 (wrap64 (x9 + 1)) x545000 x545001 x545002 x546000 x546001 x546002 x546003 x546004 x546005 x546006 x546007 x546008 x546009) else (some false))) else (none)) else (none)) else (colonnaderef14_Sound.l0 k x1 x8 (wrap64 (x9 + 1)) x545000 x545001 x545002 x546000 x546001 x546002 x546003 x546004 x546005 x546006 x546007 x546008 x546009))
end
def colonnaderef14_Sound.f (k : Nat) (a0_0 : ByteArray) (a0_1 : Int) (a0_2 : Bool) (l1 : List (S28)) (a2_0 : Int) (a2_1 : Int) (a2_2 : Int) (a2_3 : Nat) (a2_4 : ByteArray) (a2_5 : Int) (a2_6 : Int) (a2_7 : Nat) (a2_8 : ByteArray) (l2_9 : List Int) : Option (Bool) := (colonnaderef14_For.f k a0_0 a0_1 a0_2 a2_0 a2_1 a2_2 a2_3 a2_4 a2_5 a2_6 a2_7 a2_8 l2_9).bind fun t546 => (if t546 = true then (colonnaderef14_Sound.j0 k l1 (decide ((l1.length : Int) > 16777216)) a0_0 a0_1 a0_2 a2_0 a2_1 a2_2 a2_3 a2_4 a2_5 a2_6 a2_7 a2_8 l2_9) else (colonnaderef14_Sound.j0 k l1 true a0_0 a0_1 a0_2 a2_0 a2_1 a2_2 a2_3 a2_4 a2_5 a2_6 a2_7 a2_8 l2_9))
theorem colonnaderef14_Sound.mono_l : ∀ k, (∀ y0 y1 y2 y3 y4 y5 y6 y7 y8 y9 y10 y11 y12 y13 y14, LeO (colonnaderef14_Sound.j0 k y0 y1 y2 y3 y4 y5 y6 y7 y8 y9 y10 y11 y12 y13 y14) (colonnaderef14_Sound.j0 (k + 1) y0 y1 y2 y3 y4 y5 y6 y7 y8 y9 y10 y11 y12 y13 y14)) ∧ (∀ y0 y1 y2 y3 y4 y5 y6 y7 y8 y9 y10 y11 y12 y13 y14 y15, LeO (colonnaderef14_Sound.l0 k y0 y1 y2 y3 y4 y5 y6 y7 y8 y9 y10 y11 y12 y13 y14 y15) (colonnaderef14_Sound.l0 (k + 1) y0 y1 y2 y3 y4 y5 y6 y7 y8 y9 y10 y11 y12 y13 y14 y15)) ∧ (∀ y0 y1 y2 y3 y4 y5 y6 y7 y8 y9 y10 y11 y12 y13 y14 y15 y16, LeO (colonnaderef14_Sound.j2 k y0 y1 y2 y3 y4 y5 y6 y7 y8 y9 y10 y11 y12 y13 y14 y15 y16) (colonnaderef14_Sound.j2 (k + 1) y0 y1 y2 y3 y4 y5 y6 y7 y8 y9 y10 y11 y12 y13 y14 y15 y16))
  | 0 => ⟨fun _ _ _ _ _ _ _ _ _ _ _ _ _ _ _ r h => by simp [colonnaderef14_Sound.j0] at h, fun _ _ _ _ _ _ _ _ _ _ _ _ _ _ _ _ r h => by simp [colonnaderef14_Sound.l0] at h, fun _ _ _ _ _ _ _ _ _ _ _ _ _ _ _ _ _ r h => by simp [colonnaderef14_Sound.j2] at h⟩
  | k + 1 => by
    obtain ⟨ih0, ih1, ih2⟩ := colonnaderef14_Sound.mono_l k
    refine ⟨?_, ?_, ?_⟩
    · intro y0 y1 y2 y3 y4 y5 y6 y7 y8 y9 y10 y11 y12 y13 y14
      unfold colonnaderef14_Sound.j0
      repeat' first
      | (with_reducible exact ih0 _ _ _ _ _ _ _ _ _ _ _ _ _ _ _)
      | (with_reducible exact ih1 _ _ _ _ _ _ _ _ _ _ _ _ _ _ _ _)
      | (with_reducible exact ih2 _ _ _ _ _ _ _ _ _ _ _ _ _ _ _ _ _)
      | (with_reducible exact colonnaderef05_Compare.mono _ _ _ _ _ _ _ _ _)
      | (with_reducible exact colonnaderef05_Fits.mono _ _ _ _ _ _ _ _)
      | (with_reducible exact colonnaderef13_Has.mono _ _ _ _ _ _)
      | (with_reducible exact colonnaderef14_For.mono _ _ _ _ _ _ _ _ _ _ _ _ _ _)
      | (with_reducible exact LeO.refl _)
      | (with_reducible exact LeO.none _)
      | (with_reducible refine LeO.ite ?_ ?_)
      | (with_reducible refine LeO.bind ?_ (fun _ => ?_))
      | exact ih0 _ _ _ _ _ _ _ _ _ _ _ _ _ _ _
      | exact ih1 _ _ _ _ _ _ _ _ _ _ _ _ _ _ _ _
      | exact ih2 _ _ _ _ _ _ _ _ _ _ _ _ _ _ _ _ _
      | exact colonnaderef05_Compare.mono _ _ _ _ _ _ _ _ _
      | exact colonnaderef05_Fits.mono _ _ _ _ _ _ _ _
      | exact colonnaderef13_Has.mono _ _ _ _ _ _
      | exact colonnaderef14_For.mono _ _ _ _ _ _ _ _ _ _ _ _ _ _
      | exact LeO.none _
      | refine LeO.ite ?_ ?_
      | refine LeO.bind ?_ (fun _ => ?_)
    · intro y0 y1 y2 y3 y4 y5 y6 y7 y8 y9 y10 y11 y12 y13 y14 y15
      unfold colonnaderef14_Sound.l0
      repeat' first
      | (with_reducible exact ih0 _ _ _ _ _ _ _ _ _ _ _ _ _ _ _)
      | (with_reducible exact ih1 _ _ _ _ _ _ _ _ _ _ _ _ _ _ _ _)
      | (with_reducible exact ih2 _ _ _ _ _ _ _ _ _ _ _ _ _ _ _ _ _)
      | (with_reducible exact colonnaderef05_Compare.mono _ _ _ _ _ _ _ _ _)
      | (with_reducible exact colonnaderef05_Fits.mono _ _ _ _ _ _ _ _)
      | (with_reducible exact colonnaderef13_Has.mono _ _ _ _ _ _)
      | (with_reducible exact colonnaderef14_For.mono _ _ _ _ _ _ _ _ _ _ _ _ _ _)
      | (with_reducible exact LeO.refl _)
      | (with_reducible exact LeO.none _)
      | (with_reducible refine LeO.ite ?_ ?_)
      | (with_reducible refine LeO.bind ?_ (fun _ => ?_))
      | exact ih0 _ _ _ _ _ _ _ _ _ _ _ _ _ _ _
      | exact ih1 _ _ _ _ _ _ _ _ _ _ _ _ _ _ _ _
      | exact ih2 _ _ _ _ _ _ _ _ _ _ _ _ _ _ _ _ _
      | exact colonnaderef05_Compare.mono _ _ _ _ _ _ _ _ _
      | exact colonnaderef05_Fits.mono _ _ _ _ _ _ _ _
      | exact colonnaderef13_Has.mono _ _ _ _ _ _
      | exact colonnaderef14_For.mono _ _ _ _ _ _ _ _ _ _ _ _ _ _
      | exact LeO.none _
      | refine LeO.ite ?_ ?_
      | refine LeO.bind ?_ (fun _ => ?_)
    · intro y0 y1 y2 y3 y4 y5 y6 y7 y8 y9 y10 y11 y12 y13 y14 y15 y16
      unfold colonnaderef14_Sound.j2
      repeat' first
      | (with_reducible exact ih0 _ _ _ _ _ _ _ _ _ _ _ _ _ _ _)
      | (with_reducible exact ih1 _ _ _ _ _ _ _ _ _ _ _ _ _ _ _ _)
      | (with_reducible exact ih2 _ _ _ _ _ _ _ _ _ _ _ _ _ _ _ _ _)
      | (with_reducible exact colonnaderef05_Compare.mono _ _ _ _ _ _ _ _ _)
      | (with_reducible exact colonnaderef05_Fits.mono _ _ _ _ _ _ _ _)
      | (with_reducible exact colonnaderef13_Has.mono _ _ _ _ _ _)
      | (with_reducible exact colonnaderef14_For.mono _ _ _ _ _ _ _ _ _ _ _ _ _ _)
      | (with_reducible exact LeO.refl _)
      | (with_reducible exact LeO.none _)
      | (with_reducible refine LeO.ite ?_ ?_)
      | (with_reducible refine LeO.bind ?_ (fun _ => ?_))
      | exact ih0 _ _ _ _ _ _ _ _ _ _ _ _ _ _ _
      | exact ih1 _ _ _ _ _ _ _ _ _ _ _ _ _ _ _ _
      | exact ih2 _ _ _ _ _ _ _ _ _ _ _ _ _ _ _ _ _
      | exact colonnaderef05_Compare.mono _ _ _ _ _ _ _ _ _
      | exact colonnaderef05_Fits.mono _ _ _ _ _ _ _ _
      | exact colonnaderef13_Has.mono _ _ _ _ _ _
      | exact colonnaderef14_For.mono _ _ _ _ _ _ _ _ _ _ _ _ _ _
      | exact LeO.none _
      | refine LeO.ite ?_ ?_
      | refine LeO.bind ?_ (fun _ => ?_)
theorem colonnaderef14_Sound.mono : ∀ a0 a1 a2 a3 a4 a5 a6 a7 a8 a9 a10 a11 a12 a13 k, LeO (colonnaderef14_Sound.f k a0 a1 a2 a3 a4 a5 a6 a7 a8 a9 a10 a11 a12 a13) (colonnaderef14_Sound.f (k + 1) a0 a1 a2 a3 a4 a5 a6 a7 a8 a9 a10 a11 a12 a13) := by
  intro a0 a1 a2 a3 a4 a5 a6 a7 a8 a9 a10 a11 a12 a13 k
  obtain ⟨ih0, ih1, ih2⟩ := colonnaderef14_Sound.mono_l k
  unfold colonnaderef14_Sound.f
  repeat' first
      | (with_reducible exact ih0 _ _ _ _ _ _ _ _ _ _ _ _ _ _ _)
      | (with_reducible exact ih1 _ _ _ _ _ _ _ _ _ _ _ _ _ _ _ _)
      | (with_reducible exact ih2 _ _ _ _ _ _ _ _ _ _ _ _ _ _ _ _ _)
      | (with_reducible exact colonnaderef05_Compare.mono _ _ _ _ _ _ _ _ _)
      | (with_reducible exact colonnaderef05_Fits.mono _ _ _ _ _ _ _ _)
      | (with_reducible exact colonnaderef13_Has.mono _ _ _ _ _ _)
      | (with_reducible exact colonnaderef14_For.mono _ _ _ _ _ _ _ _ _ _ _ _ _ _)
      | (with_reducible exact LeO.refl _)
      | (with_reducible exact LeO.none _)
      | (with_reducible refine LeO.ite ?_ ?_)
      | (with_reducible refine LeO.bind ?_ (fun _ => ?_))
      | exact ih0 _ _ _ _ _ _ _ _ _ _ _ _ _ _ _
      | exact ih1 _ _ _ _ _ _ _ _ _ _ _ _ _ _ _ _
      | exact ih2 _ _ _ _ _ _ _ _ _ _ _ _ _ _ _ _ _
      | exact colonnaderef05_Compare.mono _ _ _ _ _ _ _ _ _
      | exact colonnaderef05_Fits.mono _ _ _ _ _ _ _ _
      | exact colonnaderef13_Has.mono _ _ _ _ _ _
      | exact colonnaderef14_For.mono _ _ _ _ _ _ _ _ _ _ _ _ _ _
      | exact LeO.none _
      | refine LeO.ite ?_ ?_
      | refine LeO.bind ?_ (fun _ => ?_)
def colonnaderef14_Sound.T13 : Bool × List (List Nat × List Nat) := (true, [([], []), ([0], [0]), ([1], [1]), ([2, 2], [2]), ([3], [3]), ([3], [3]), ([4, 5, 3], [3, 4, 5]), ([6, 3], [3, 6]), ([3], [3]), ([8, 3], [3, 8]), ([7, 9, 3, 3], [3, 7, 9]), ([10, 3], [3, 10]), ([3, 11], [3, 11]), ([12, 10], [12]), ([13], [13]), ([13], [13]), ([14, 15, 13], [13, 14, 15]), ([16, 13], [13, 16]), ([13], [13]), ([18, 13], [13, 18]), ([17, 19, 13, 13], [13, 17, 19]), ([20, 13], [13, 20]), ([13, 21], [13, 21])])
def colonnaderef14_Sound.B13 : List Nat := [0, 1, 3, 7, 15, 15, 63, 127, 15, 271, 1023, 2047, 4095, 8191, 16383, 16383, 65535, 131071, 16383, 278527, 1048575, 2097151, 4194303]
theorem colonnaderef14_Sound.tab13 : rtab .any (opsOf Try.f25 13) = colonnaderef14_Sound.T13 := by kernel_rfl
theorem colonnaderef14_Sound.bits13 : waitsOk colonnaderef14_Sound.T13.2 colonnaderef14_Sound.B13 = true := by kernel_rfl
def colonnaderef14_Sound.T15 : Bool × List (List Nat × List Nat) := (true, [([], []), ([0], [0]), ([1], [1]), ([2], [2]), ([3], [3]), ([4], [4]), ([5, 4], [4, 5]), ([4], [4]), ([4], [4]), ([7, 8, 4], [4, 7, 8]), ([9, 4], [4, 9]), ([6, 10, 4, 4], [4, 6, 10]), ([11, 4], [4, 11]), ([4, 12], [4, 12])])
def colonnaderef14_Sound.B15 : List Nat := [0, 1, 3, 7, 15, 31, 63, 31, 31, 415, 927, 2047, 4095, 8191]
theorem colonnaderef14_Sound.tab15 : rtab .any (opsOf Try.f25 15) = colonnaderef14_Sound.T15 := by kernel_rfl
theorem colonnaderef14_Sound.bits15 : waitsOk colonnaderef14_Sound.T15.2 colonnaderef14_Sound.B15 = true := by kernel_rfl
set_option maxHeartbeats 8000000 in
set_option maxRecDepth 100000 in
theorem colonnaderef14_Sound.calls (k : Nat) (a0_0 : ByteArray) (a0_1 : Int) (a0_2 : Bool) (A1 : Option Addr) (c1 : Nat) (l1 : List (S28)) (a2_0 : Int) (a2_1 : Int) (a2_2 : Int) (a2_3 : Nat) (a2_4 : ByteArray) (a2_5 : Int) (a2_6 : Int) (a2_7 : Nat) (a2_8 : ByteArray) (A2_9 : Option Addr) (c2_9 : Nat) (l2_9 : List Int) (r : Bool) (w : World) (hr1 : Kd.C k28 w A1 l1.length l1) (hc1 : l1.length ≤ c1) (hr2_9 : Kd.C (Kd.int .u8) w A2_9 l2_9.length l2_9) (hc2_9 : l2_9.length ≤ c2_9) (h : colonnaderef14_Sound.f k a0_0 a0_1 a0_2 l1 a2_0 a2_1 a2_2 a2_3 a2_4 a2_5 a2_6 a2_7 a2_8 l2_9 = some r) :
    Calls Try.prog 25 #[.agg #[.string a0_0, .int .i64 a0_1, .bool a0_2], .slice A1 l1.length c1, .agg #[.int .i64 a2_0, .int .i64 a2_1, .int .i64 a2_2, .float .f64 a2_3, .string a2_4, .int .i64 a2_5, .int .i64 a2_6, .float .f64 a2_7, .string a2_8, .slice A2_9 l2_9.length c2_9]] w fun e w' => e = .returned (.bool r) ∧ Below w.heap.size w w' := by
  have hu23 := Try.underlying23
  have hu31 := Try.underlying31
  have hu28 := Try.underlying28
  have HR1 := Aside0.mk hr1
  have HC1 := Aside0.mk hc1
  clear hr1 hc1
  have HR2_9 := Aside0.mk hr2_9
  have HC2_9 := Aside0.mk hc2_9
  clear hr2_9 hc2_9
  have HB := Aside0.mk (Below.refl w.heap.size w)
  have H : ((colonnaderef14_For.f k a0_0 a0_1 a0_2 a2_0 a2_1 a2_2 a2_3 a2_4 a2_5 a2_6 a2_7 a2_8 l2_9).bind fun t546 => (if t546 = true then (colonnaderef14_Sound.j0 k l1 (decide ((l1.length : Int) > 16777216)) a0_0 a0_1 a0_2 a2_0 a2_1 a2_2 a2_3 a2_4 a2_5 a2_6 a2_7 a2_8 l2_9) else (colonnaderef14_Sound.j0 k l1 true a0_0 a0_1 a0_2 a2_0 a2_1 a2_2 a2_3 a2_4 a2_5 a2_6 a2_7 a2_8 l2_9))) = some r := h
  clear h
  replace H := Option.bind_eq_some_iff.mp H
  obtain ⟨t546, A40, H⟩ := H
  (try dsimp only at H)
  have A4 := Aside0.mk A40
  clear A40
  have HC5 := Aside0.mk H
  clear H
  go_enter Try.func25, Try.ntmps25
  go_upto_region 2 with (first | ((with_reducible refine gate_dst (N := 3) rfl ?_); (try (refine gate_guard (by rfl) ?_; dsimp only)); refine box_event ?hg (N := 3) ?hd (cs := #[.string a0_0, .int .i64 a0_1, .bool a0_2]) (t := 23) ?hr ?_; (case hd => rfl); (case hg => rfl); (case hr => first | (go_simp; done) | (go_simp; rfl)); intro gb544 hg w6 hbox hb; have n0_ := Aside0.mk (below_step bel0 hb); have n1_ := Aside0.mk (hbox); have n2_ := Aside0.mk ((by rw [hg]; exact (below_size bel0) : w.heap.size ≤ gb544)); have n3_ := Aside0.mk ((by rw [hg]; exact (below_size bel0) : w.heap.size ≤ gb544)); clear HB; have HB := n0_; have BK544 := n1_; have GW544 := n2_; have GE544 := n3_; clear n0_ n1_ n2_ n3_; clear hb hbox hg) | ((with_reducible refine gate_dst (N := 5) rfl ?_); (try (refine gate_guard (by rfl) ?_; dsimp only)); refine box_event ?hg (N := 5) ?hd (cs := #[.int .i64 a2_0, .int .i64 a2_1, .int .i64 a2_2, .float .f64 a2_3, .string a2_4, .int .i64 a2_5, .int .i64 a2_6, .float .f64 a2_7, .string a2_8, .slice A2_9 l2_9.length c2_9]) (t := 31) ?hr ?_; (case hd => rfl); (case hg => rfl); (case hr => first | (go_simp; done) | (go_simp; rfl)); intro gb545 hg w7 hbox hb; have n0_ := blkS BK544 hb; have n1_ := Aside0.mk (below_step bel0 hb); have n2_ := Aside0.mk (hbox); have n3_ := Aside0.mk ((by rw [hg]; exact (below_size bel0) : w.heap.size ≤ gb545)); have n4_ := Aside0.mk ((by rw [hg]; exact (below_size bel0) : w.heap.size ≤ gb545)); have n5_ := Aside0.mk ((by rw [hg]; exact Nat.ne_of_lt (blk_lt (g := gb544) (o := .cells #[.string a0_0, .int .i64 a0_1, .bool a0_2] 23 (0, 0)) (blk0 BK544)) : gb544 ≠ gb545)); have n6_ := Aside0.mk ((by rw [hg]; exact Nat.ne_of_gt (blk_lt (g := gb544) (o := .cells #[.string a0_0, .int .i64 a0_1, .bool a0_2] 23 (0, 0)) (blk0 BK544)) : gb545 ≠ gb544)); clear BK544; clear HB; have BK544 := n0_; have HB := n1_; have BK545 := n2_; have GW545 := n3_; have GE545 := n4_; have NB544_545 := n5_; have NB545_544 := n6_; clear n0_ n1_ n2_ n3_ n4_ n5_ n6_; clear hb hbox hg; have hnb8 := NB544_545.out; have hnc8 := NB545_544.out; obtain ⟨hcz9_0, hcz9_1, hcz9_2⟩ := cells_3 BK544.out; obtain ⟨hfz9_0, hfz9_1, hfz9_2⟩ := froz_3 BK544.out; obtain ⟨hcz10_0, hcz10_1, hcz10_2, hcz10_3, hcz10_4, hcz10_5, hcz10_6, hcz10_7, hcz10_8, hcz10_9⟩ := cells_10 BK545.out; obtain ⟨hfz10_0, hfz10_1, hfz10_2, hfz10_3, hfz10_4, hfz10_5, hfz10_6, hfz10_7, hfz10_8, hfz10_9⟩ := froz_10 BK545.out) | ((with_reducible refine gate_callee (f := 43) rfl ?_); refine goesQ 13 Try.func43 #[.agg #[.string a0_0, .int .i64 a0_1, .bool a0_2], .agg #[.int .i64 a2_0, .int .i64 a2_1, .int .i64 a2_2, .float .f64 a2_3, .string a2_4, .int .i64 a2_5, .int .i64 a2_6, .float .f64 a2_7, .string a2_8, .slice A2_9 l2_9.length c2_9]] ?_; (with_reducible refine (colonnaderef14_For.calls k a0_0 a0_1 a0_2 a2_0 a2_1 a2_2 a2_3 a2_4 a2_5 a2_6 a2_7 a2_8 _ _ l2_9 t546 _ ?side1 ?side2 A4.out).mono ?_); (case side1 => repeat (first | exact (Kd.C_below HR2_9.out HB.out) | (with_reducible refine Kd.C_alloc ?_ _) | (with_reducible refine Kd.C_drewN ?_ _) | (with_reducible refine Kd.C_drew ?_))); (case side2 => exact HC2_9.out); rintro e w11 ⟨rfl, hb⟩; refine ⟨_, rfl, ?_⟩; have n0_ := blkS BK544 hb; have n1_ := blkS BK545 hb; have n2_ := Aside0.mk (below_step bel0 hb); clear BK544; clear BK545; clear HB; have BK544 := n0_; have BK545 := n1_; have HB := n2_; clear n0_ n1_ n2_; (try clear hb); (try clear hb2); (try clear hk); (try clear hi)))
  (try simp only [Act.put, List.setIfInBounds_toArray, List.set_cons_zero, List.set_cons_succ])
  go_cut [20] (fun v20 wc => ∃ (kq : Nat) (x20_4 : Bool), v20 = .bool x20_4 ∧ Aside0 (colonnaderef14_Sound.j0 kq l1 x20_4 a0_0 a0_1 a0_2 a2_0 a2_1 a2_2 a2_3 a2_4 a2_5 a2_6 a2_7 a2_8 l2_9 = some r) ∧ Aside0 (kq ≤ k) ∧ Aside0 (wc.heap[gb544]? = some (.cells #[.string a0_0, .int .i64 a0_1, .bool a0_2] 23 (0, 0))) ∧ Aside0 (wc.heap[gb545]? = some (.cells #[.int .i64 a2_0, .int .i64 a2_1, .int .i64 a2_2, .float .f64 a2_3, .string a2_4, .int .i64 a2_5, .int .i64 a2_6, .float .f64 a2_7, .string a2_8, (.slice A2_9 l2_9.length c2_9)] 31 (0, 0))) ∧ Aside0 (Below w.heap.size w wc))
  case first =>
    have H := HC5.out
    clear HC5
    by_cases c12 : t546 = true
    · subst c12
      rw [if_pos rfl] at H
      have H' := Aside0.mk H
      clear H
      go_wp2
      go_meet
      case rel => exact ⟨_, (decide ((l1.length : Int) > 16777216)), (by first | rfl | (simp; done) | (simp [*]; done)), H', ⟨by first | omega | exact Nat.le_refl _⟩, ⟨by (with_reducible repeat (first | refine blk_drewN ?_ _ | refine blk_drew ?_ | refine blk_alloc ?_ _)); exact BK544.out⟩, ⟨by (with_reducible repeat (first | refine blk_drewN ?_ _ | refine blk_drew ?_ | refine blk_alloc ?_ _)); exact BK545.out⟩, ⟨bel0⟩⟩
    · replace c12 := Bool.eq_false_iff.mpr c12
      subst c12
      rw [if_neg (show ¬ (false = true) by decide)] at H
      have H' := Aside0.mk H
      clear H
      go_wp2
      go_meet
      case rel => exact ⟨_, (true), (by first | rfl | (simp; done) | (simp [*]; done)), H', ⟨by first | omega | exact Nat.le_refl _⟩, ⟨by (with_reducible repeat (first | refine blk_drewN ?_ _ | refine blk_drew ?_ | refine blk_alloc ?_ _)); exact BK544.out⟩, ⟨by (with_reducible repeat (first | refine blk_drewN ?_ _ | refine blk_drew ?_ | refine blk_alloc ?_ _)); exact BK545.out⟩, ⟨bel0⟩⟩
  case rest =>
    clear HC5
    try clear c1
    try clear c2
    try clear p2
    try clear c4
    try clear c8
    try clear c12
    try clear hcz10_0
    try clear hcz10_1
    try clear hcz10_2
    try clear hcz10_3
    try clear hcz10_4
    try clear hcz10_5
    try clear hcz10_6
    try clear hcz10_7
    try clear hcz10_8
    try clear hcz10_9
    try clear hcz9_0
    try clear hcz9_1
    try clear hcz9_2
    try clear hfz10_0
    try clear hfz10_1
    try clear hfz10_2
    try clear hfz10_3
    try clear hfz10_4
    try clear hfz10_5
    try clear hfz10_6
    try clear hfz10_7
    try clear hfz10_8
    try clear hfz10_9
    try clear hfz9_0
    try clear hfz9_1
    try clear hfz9_2
    obtain ⟨kq, x20_4, rfl, HA, HJ4, BK544, BK545, HB⟩ := hcut
    cases kq with
    | zero => exact absurd HA.out (by simp [colonnaderef14_Sound.j0])
    | succ kj4 =>
      have H := HA.out
      clear HA
      simp only [colonnaderef14_Sound.j0] at H
      by_cases c13 : x20_4 = true
      · subst c13
        rw [if_pos rfl] at H
        obtain rfl := Option.some.inj H
        go_wp2
        go_ret
        exact ⟨by first | rfl | (simp [errW_none, errW_some] <;> rfl) | (simp [*, errW_none, errW_some] <;> rfl), bel0⟩
      · replace c13 := Bool.eq_false_iff.mpr c13
        subst c13
        rw [if_neg (show ¬ (false = true) by decide)] at H
        have H' := Aside0.mk H
        clear H
        go_wp2
        go_loopg [8, 9] kj4 (fun kq v8 v9 w' => ∃ (x8_2 : Int) (x9_2 : Int), v8 = .int .i64 x8_2 ∧ v9 = .int .i64 x9_2 ∧ Aside0 (colonnaderef14_Sound.l0 kq l1 x8_2 x9_2 a0_0 a0_1 a0_2 a2_0 a2_1 a2_2 a2_3 a2_4 a2_5 a2_6 a2_7 a2_8 l2_9 = some r) ∧ Aside0 (kq ≤ kj4) ∧ Aside0 (w'.heap[gb544]? = some (.cells #[.string a0_0, .int .i64 a0_1, .bool a0_2] 23 (0, 0))) ∧ Aside0 (w'.heap[gb545]? = some (.cells #[.int .i64 a2_0, .int .i64 a2_1, .int .i64 a2_2, .float .f64 a2_3, .string a2_4, .int .i64 a2_5, .int .i64 a2_6, .float .f64 a2_7, .string a2_8, (.slice A2_9 l2_9.length c2_9)] 31 (0, 0))) ∧ Aside0 (Below w.heap.size w w'))
        case atStart => exact ⟨(0), (0), (by first | rfl | (simp; done) | (simp [*]; done)), (by first | rfl | (simp; done) | (simp [*]; done)), H', ⟨Nat.le_refl _⟩, ⟨by (with_reducible repeat (first | refine blk_drewN ?_ _ | refine blk_drew ?_ | refine blk_alloc ?_ _)); exact BK544.out⟩, ⟨by (with_reducible repeat (first | refine blk_drewN ?_ _ | refine blk_drew ?_ | refine blk_alloc ?_ _)); exact BK545.out⟩, ⟨bel0⟩⟩
        case round =>
          clear H'
          try clear c1
          try clear c2
          try clear p2
          try clear c4
          try clear c8
          try clear c12
          try clear c13
          try clear hcz10_0
          try clear hcz10_1
          try clear hcz10_2
          try clear hcz10_3
          try clear hcz10_4
          try clear hcz10_5
          try clear hcz10_6
          try clear hcz10_7
          try clear hcz10_8
          try clear hcz10_9
          try clear hcz9_0
          try clear hcz9_1
          try clear hcz9_2
          try clear hfz10_0
          try clear hfz10_1
          try clear hfz10_2
          try clear hfz10_3
          try clear hfz10_4
          try clear hfz10_5
          try clear hfz10_6
          try clear hfz10_7
          try clear hfz10_8
          try clear hfz10_9
          try clear hfz9_0
          try clear hfz9_1
          try clear hfz9_2
          try clear p2
          obtain ⟨x8_2, x9_2, rfl, rfl, HA, HK2, BK544, BK545, HB⟩ := hrel
          cases gk with
          | zero => exact absurd HA.out (by simp [colonnaderef14_Sound.l0])
          | succ k2 =>
            have H := HA.out
            clear HA
            simp only [colonnaderef14_Sound.l0] at H
            by_cases c14 : x9_2 < (l1.length : Int)
            · rw [if_pos c14] at H
              have c14b0 : decide (x9_2 < (l1.length : Int)) = true := decide_eq_true c14
              clear c14
              by_cases c15 : 0 ≤ x9_2
              · rw [if_pos c15] at H
                have c15b0 : decide (0 ≤ x9_2) = true := decide_eq_true c15
                clear c15
                replace H := Option.bind_eq_some_iff.mp H
                obtain ⟨t549, A160, H⟩ := H
                (try dsimp only at H)
                have A16 := Aside0.mk A160
                clear A160
                by_cases c17 : t549 = true
                · subst c17
                  rw [if_pos rfl] at H
                  by_cases c18 : ((rd_T28 l1 x9_2).f0) = 0
                  · rw [if_pos c18] at H
                    have c18b0 : (((rd_T28 l1 x9_2).f0) == 0) = true := beq_iff_eq.mpr c18
                    have c18b1 : (((rd_T28 l1 x9_2).f0) != 0) = false := bne_eq_false_iff_eq.mpr c18
                    clear c18
                    have H' := Aside0.mk H
                    clear H
                    try go_wp2
                    have n0_ := Aside0.mk (blk_drew BK544.out)
                    have n1_ := Aside0.mk (blk_drew BK545.out)
                    have n2_ := Aside0.mk (below_drew1 HB.out)
                    clear BK544
                    clear BK545
                    clear HB
                    have BK544 := n0_
                    have BK545 := n1_
                    have HB := n2_
                    clear n0_ n1_ n2_
                    have p548 : 0 ≤ (x9_2 : Int) := of_decide_eq_true (by first | (with_reducible assumption) | assumption)
                    have q548 : x9_2 < (l1.length : Int) := of_decide_eq_true (by first | (with_reducible assumption) | assumption)
                    obtain ⟨ad548, e548, hx548_0, hx548_1, hx548_2, hx548_3⟩ := at_T28 HR1.out x9_2 p548 q548
                    have hw548_3 := hx548_3
                    have hw548_2 := hx548_2
                    have hw548_1 := hx548_1
                    have hw548_0 := hx548_0
                    cases e548
                    replace hx548_0 := (HB.out.cell (World.block_lt_of_cell? w _ hx548_0)).trans hx548_0
                    replace hx548_1 := (HB.out.cell (World.block_lt_of_cell? w _ hx548_1)).trans hx548_1
                    replace hx548_2 := (HB.out.cell (World.block_lt_of_cell? w _ hx548_2)).trans hx548_2
                    replace hx548_3 := (HB.out.cell (World.block_lt_of_cell? w _ hx548_3)).trans hx548_3
                    replace p548 := eq_true p548
                    replace q548 := eq_true q548
                    refine start_ (n := 7) (S := fun w' => w'.cell? ⟨gb544, 0, none⟩ = some (.string a0_0) ∧ w'.cell? ⟨gb544, 1, none⟩ = some (.int .i64 a0_1) ∧ w'.cell? ⟨gb544, 2, none⟩ = some (.bool a0_2) ∧ w'.cell? (ad548.add ((x9_2).toNat * 4)) = some (.int .i64 ((rd_T28 l1 x9_2).f0)) ∧ w'.cell? ⟨(ad548.add ((x9_2).toNat * 4)).block, (ad548.add ((x9_2).toNat * 4)).off + 1, none⟩ = some (.int .i64 ((rd_T28 l1 x9_2).f1)) ∧ w'.cell? ⟨(ad548.add ((x9_2).toNat * 4)).block, (ad548.add ((x9_2).toNat * 4)).off + 2, none⟩ = some (.float .f64 ((rd_T28 l1 x9_2).f2)) ∧ w'.cell? ⟨(ad548.add ((x9_2).toNat * 4)).block, (ad548.add ((x9_2).toNat * 4)).off + 3, none⟩ = some (.string ((rd_T28 l1 x9_2).f3))) (ds := []) #[false, false, false, false, false, false, false] (by kernel_rfl) rfl rfl ⟨(blk_cell BK544.out 0).trans rfl, (blk_cell BK544.out 1).trans rfl, (blk_cell BK544.out 2).trans rfl, ((HB.out.cell (World.block_lt_of_cell? w _ hw548_0)).trans hw548_0), ((HB.out.cell (World.block_lt_of_cell? w _ hw548_1)).trans hw548_1), ((HB.out.cell (World.block_lt_of_cell? w _ hw548_2)).trans hw548_2), ((HB.out.cell (World.block_lt_of_cell? w _ hw548_3)).trans hw548_3)⟩ (fun hHeld => ?_)
                    generalize wr.drew = w19 at BK544 BK545 HB hx548_0 hx548_1 hx548_2 hx548_3 hHeld ⊢
                    refine pureP #[false, true, false, false, false, false, false] (by kernel_rfl) (i := 1) (N := some 28) ?_
                    refine pureP #[false, true, true, false, false, false, false] (by kernel_rfl) (i := 2) (N := some 29) ?_
                    refine pureP #[false, true, true, true, false, false, false] (by kernel_rfl) (i := 3) (N := some 30) ?_
                    refine takeP #[true, true, true, true, false, false, false] (by kernel_rfl) hHeld (i := 0) (N := some 27) ?_
                    refine takeP #[true, true, true, true, true, false, false] (by kernel_rfl) hHeld (i := 4) (N := some 31) ?_
                    refine one_ (i := 5) (N := some 32) #[true, true, true, true, true, true, false] rfl rfl (by kernel_rfl) (by decide) (fun K hK => ?_)
                    refine goes_ Try.func45 (by kernel_rfl) rfl #[.agg #[.string a0_0, .int .i64 a0_1, .bool a0_2], .agg #[.int .i64 ((rd_T28 l1 x9_2).f0), .int .i64 ((rd_T28 l1 x9_2).f1), .float .f64 ((rd_T28 l1 x9_2).f2), .string ((rd_T28 l1 x9_2).f3)]] (by rfl) rfl rfl (by (try simp only [List.map_toArray, List.map_cons, List.map_nil]); first | done | rfl | (simp only [List.length_drop, List.length_take]; rfl)) ?_
                    with_reducible refine (colonnaderef05_Fits.calls k2 a0_0 a0_1 a0_2 ((rd_T28 l1 x9_2).f0) ((rd_T28 l1 x9_2).f1) ((rd_T28 l1 x9_2).f2) ((rd_T28 l1 x9_2).f3) true _ A16.out).mono ?_
                    rintro e w20 ⟨rfl, hb⟩
                    refine ⟨_, rfl, ?_⟩
                    have n0_ := blkS BK544 hb
                    have n1_ := blkS BK545 hb
                    have n2_ := Aside0.mk (below_step bel0 hb)
                    clear BK544
                    clear BK545
                    clear HB
                    have BK544 := n0_
                    have BK545 := n1_
                    have HB := n2_
                    clear n0_ n1_ n2_
                    (try clear hb)
                    (try clear hb2)
                    (try clear hk)
                    (try clear hi)
                    refine hK.out _ _ ⟨(blk_cell BK544.out 0).trans rfl, (blk_cell BK544.out 1).trans rfl, (blk_cell BK544.out 2).trans rfl, ((HB.out.cell (World.block_lt_of_cell? w _ hw548_0)).trans hw548_0), ((HB.out.cell (World.block_lt_of_cell? w _ hw548_1)).trans hw548_1), ((HB.out.cell (World.block_lt_of_cell? w _ hw548_2)).trans hw548_2), ((HB.out.cell (World.block_lt_of_cell? w _ hw548_3)).trans hw548_3)⟩ (fun hHeld => ?_)
                    clear hK K
                    refine norm_ (a' := ?_) ?_ ?_
                    rotate_left
                    · show Act.put _ (some 32) _ = _
                      simp only [Act.put, List.setIfInBounds_toArray, List.set_cons_zero, List.set_cons_succ, i64_w, i32_w]
                      rfl
                    refine pureP #[true, true, true, true, true, true, true] (by kernel_rfl) (i := 6) (N := some 10) ?_
                    refine done_ (by kernel_rfl) ?_
                    have p550 : 0 ≤ (x9_2 : Int) := of_decide_eq_true (by first | (with_reducible assumption) | assumption)
                    have q550 : x9_2 < (l1.length : Int) := of_decide_eq_true (by first | (with_reducible assumption) | assumption)
                    obtain ⟨ad550, e550, hx550_0, hx550_1, hx550_2, hx550_3⟩ := at_T28 HR1.out x9_2 p550 q550
                    obtain rfl : ad548 = ad550 := (by injection e550)
                    replace hx550_0 := (HB.out.cell (World.block_lt_of_cell? w _ hx550_0)).trans hx550_0
                    replace hx550_1 := (HB.out.cell (World.block_lt_of_cell? w _ hx550_1)).trans hx550_1
                    replace hx550_2 := (HB.out.cell (World.block_lt_of_cell? w _ hx550_2)).trans hx550_2
                    replace hx550_3 := (HB.out.cell (World.block_lt_of_cell? w _ hx550_3)).trans hx550_3
                    replace p550 := eq_true p550
                    replace q550 := eq_true q550
                    try go_wp2
                    go_roundg k2
                    case measure => have := HJ4.out; have := HK2.out; omega
                    case rel => exact ⟨(wrap64 (x8_2 + 1)), (wrap64 (x9_2 + 1)), (by first | rfl | (simp; done) | (simp [*]; done)), (by first | rfl | (simp; done) | (simp [*]; done)), H', ⟨by have := HJ4.out; have := HK2.out; omega⟩, ⟨by (with_reducible repeat (first | refine blk_drewN ?_ _ | refine blk_drew ?_ | refine blk_alloc ?_ _)); exact BK544.out⟩, ⟨by (with_reducible repeat (first | refine blk_drewN ?_ _ | refine blk_drew ?_ | refine blk_alloc ?_ _)); exact BK545.out⟩, ⟨bel0⟩⟩
                  · rw [if_neg c18] at H
                    have c18b0 : (((rd_T28 l1 x9_2).f0) == 0) = false := beq_eq_false_iff_ne.mpr c18
                    have c18b1 : (((rd_T28 l1 x9_2).f0) != 0) = true := bne_iff_ne.mpr c18
                    have HC21 := Aside0.mk H
                    clear H
                    try go_wp2
                    have n0_ := Aside0.mk (blk_drew BK544.out)
                    have n1_ := Aside0.mk (blk_drew BK545.out)
                    have n2_ := Aside0.mk (below_drew1 HB.out)
                    clear BK544
                    clear BK545
                    clear HB
                    have BK544 := n0_
                    have BK545 := n1_
                    have HB := n2_
                    clear n0_ n1_ n2_
                    have p548 : 0 ≤ (x9_2 : Int) := of_decide_eq_true (by first | (with_reducible assumption) | assumption)
                    have q548 : x9_2 < (l1.length : Int) := of_decide_eq_true (by first | (with_reducible assumption) | assumption)
                    obtain ⟨ad548, e548, hx548_0, hx548_1, hx548_2, hx548_3⟩ := at_T28 HR1.out x9_2 p548 q548
                    have hw548_3 := hx548_3
                    have hw548_2 := hx548_2
                    have hw548_1 := hx548_1
                    have hw548_0 := hx548_0
                    cases e548
                    replace hx548_0 := (HB.out.cell (World.block_lt_of_cell? w _ hx548_0)).trans hx548_0
                    replace hx548_1 := (HB.out.cell (World.block_lt_of_cell? w _ hx548_1)).trans hx548_1
                    replace hx548_2 := (HB.out.cell (World.block_lt_of_cell? w _ hx548_2)).trans hx548_2
                    replace hx548_3 := (HB.out.cell (World.block_lt_of_cell? w _ hx548_3)).trans hx548_3
                    replace p548 := eq_true p548
                    replace q548 := eq_true q548
                    refine start_ (n := 7) (S := fun w' => w'.cell? ⟨gb544, 0, none⟩ = some (.string a0_0) ∧ w'.cell? ⟨gb544, 1, none⟩ = some (.int .i64 a0_1) ∧ w'.cell? ⟨gb544, 2, none⟩ = some (.bool a0_2) ∧ w'.cell? (ad548.add ((x9_2).toNat * 4)) = some (.int .i64 ((rd_T28 l1 x9_2).f0)) ∧ w'.cell? ⟨(ad548.add ((x9_2).toNat * 4)).block, (ad548.add ((x9_2).toNat * 4)).off + 1, none⟩ = some (.int .i64 ((rd_T28 l1 x9_2).f1)) ∧ w'.cell? ⟨(ad548.add ((x9_2).toNat * 4)).block, (ad548.add ((x9_2).toNat * 4)).off + 2, none⟩ = some (.float .f64 ((rd_T28 l1 x9_2).f2)) ∧ w'.cell? ⟨(ad548.add ((x9_2).toNat * 4)).block, (ad548.add ((x9_2).toNat * 4)).off + 3, none⟩ = some (.string ((rd_T28 l1 x9_2).f3))) (ds := []) #[false, false, false, false, false, false, false] (by kernel_rfl) rfl rfl ⟨(blk_cell BK544.out 0).trans rfl, (blk_cell BK544.out 1).trans rfl, (blk_cell BK544.out 2).trans rfl, ((HB.out.cell (World.block_lt_of_cell? w _ hw548_0)).trans hw548_0), ((HB.out.cell (World.block_lt_of_cell? w _ hw548_1)).trans hw548_1), ((HB.out.cell (World.block_lt_of_cell? w _ hw548_2)).trans hw548_2), ((HB.out.cell (World.block_lt_of_cell? w _ hw548_3)).trans hw548_3)⟩ (fun hHeld => ?_)
                    generalize wr.drew = w22 at BK544 BK545 HB hx548_0 hx548_1 hx548_2 hx548_3 hHeld ⊢
                    refine pureP #[false, true, false, false, false, false, false] (by kernel_rfl) (i := 1) (N := some 28) ?_
                    refine pureP #[false, true, true, false, false, false, false] (by kernel_rfl) (i := 2) (N := some 29) ?_
                    refine pureP #[false, true, true, true, false, false, false] (by kernel_rfl) (i := 3) (N := some 30) ?_
                    refine takeP #[true, true, true, true, false, false, false] (by kernel_rfl) hHeld (i := 0) (N := some 27) ?_
                    refine takeP #[true, true, true, true, true, false, false] (by kernel_rfl) hHeld (i := 4) (N := some 31) ?_
                    refine one_ (i := 5) (N := some 32) #[true, true, true, true, true, true, false] rfl rfl (by kernel_rfl) (by decide) (fun K hK => ?_)
                    refine goes_ Try.func45 (by kernel_rfl) rfl #[.agg #[.string a0_0, .int .i64 a0_1, .bool a0_2], .agg #[.int .i64 ((rd_T28 l1 x9_2).f0), .int .i64 ((rd_T28 l1 x9_2).f1), .float .f64 ((rd_T28 l1 x9_2).f2), .string ((rd_T28 l1 x9_2).f3)]] (by rfl) rfl rfl (by (try simp only [List.map_toArray, List.map_cons, List.map_nil]); first | done | rfl | (simp only [List.length_drop, List.length_take]; rfl)) ?_
                    with_reducible refine (colonnaderef05_Fits.calls k2 a0_0 a0_1 a0_2 ((rd_T28 l1 x9_2).f0) ((rd_T28 l1 x9_2).f1) ((rd_T28 l1 x9_2).f2) ((rd_T28 l1 x9_2).f3) true _ A16.out).mono ?_
                    rintro e w23 ⟨rfl, hb⟩
                    refine ⟨_, rfl, ?_⟩
                    have n0_ := blkS BK544 hb
                    have n1_ := blkS BK545 hb
                    have n2_ := Aside0.mk (below_step bel0 hb)
                    clear BK544
                    clear BK545
                    clear HB
                    have BK544 := n0_
                    have BK545 := n1_
                    have HB := n2_
                    clear n0_ n1_ n2_
                    (try clear hb)
                    (try clear hb2)
                    (try clear hk)
                    (try clear hi)
                    refine hK.out _ _ ⟨(blk_cell BK544.out 0).trans rfl, (blk_cell BK544.out 1).trans rfl, (blk_cell BK544.out 2).trans rfl, ((HB.out.cell (World.block_lt_of_cell? w _ hw548_0)).trans hw548_0), ((HB.out.cell (World.block_lt_of_cell? w _ hw548_1)).trans hw548_1), ((HB.out.cell (World.block_lt_of_cell? w _ hw548_2)).trans hw548_2), ((HB.out.cell (World.block_lt_of_cell? w _ hw548_3)).trans hw548_3)⟩ (fun hHeld => ?_)
                    clear hK K
                    refine norm_ (a' := ?_) ?_ ?_
                    rotate_left
                    · show Act.put _ (some 32) _ = _
                      simp only [Act.put, List.setIfInBounds_toArray, List.set_cons_zero, List.set_cons_succ, i64_w, i32_w]
                      rfl
                    refine pureP #[true, true, true, true, true, true, true] (by kernel_rfl) (i := 6) (N := some 10) ?_
                    refine done_ (by kernel_rfl) ?_
                    have p550 : 0 ≤ (x9_2 : Int) := of_decide_eq_true (by first | (with_reducible assumption) | assumption)
                    have q550 : x9_2 < (l1.length : Int) := of_decide_eq_true (by first | (with_reducible assumption) | assumption)
                    obtain ⟨ad550, e550, hx550_0, hx550_1, hx550_2, hx550_3⟩ := at_T28 HR1.out x9_2 p550 q550
                    obtain rfl : ad548 = ad550 := (by injection e550)
                    replace hx550_0 := (HB.out.cell (World.block_lt_of_cell? w _ hx550_0)).trans hx550_0
                    replace hx550_1 := (HB.out.cell (World.block_lt_of_cell? w _ hx550_1)).trans hx550_1
                    replace hx550_2 := (HB.out.cell (World.block_lt_of_cell? w _ hx550_2)).trans hx550_2
                    replace hx550_3 := (HB.out.cell (World.block_lt_of_cell? w _ hx550_3)).trans hx550_3
                    replace p550 := eq_true p550
                    replace q550 := eq_true q550
                    go_upto_region 13 with (fail)
                    go_cut [65] (fun v65 wc => ∃ (kq : Nat) (x65_20 : Bool), v65 = .bool x65_20 ∧ Aside0 (colonnaderef14_Sound.j2 kq l1 x8_2 x9_2 x65_20 a0_0 a0_1 a0_2 a2_0 a2_1 a2_2 a2_3 a2_4 a2_5 a2_6 a2_7 a2_8 l2_9 = some r) ∧ Aside0 (kq ≤ k2) ∧ Aside0 (wc.heap[gb544]? = some (.cells #[.string a0_0, .int .i64 a0_1, .bool a0_2] 23 (0, 0))) ∧ Aside0 (wc.heap[gb545]? = some (.cells #[.int .i64 a2_0, .int .i64 a2_1, .int .i64 a2_2, .float .f64 a2_3, .string a2_4, .int .i64 a2_5, .int .i64 a2_6, .float .f64 a2_7, .string a2_8, (.slice A2_9 l2_9.length c2_9)] 31 (0, 0))) ∧ Aside0 (Below w.heap.size w wc))
                    case first =>
                      have H := HC21.out
                      clear HC21
                      replace H := Option.bind_eq_some_iff.mp H
                      obtain ⟨t551, A240, H⟩ := H
                      (try dsimp only at H)
                      have A24 := Aside0.mk A240
                      clear A240
                      by_cases c25 : t551 = true
                      · subst c25
                        rw [if_pos rfl] at H
                        have H' := Aside0.mk H
                        clear H
                        try go_wp2
                        have n0_ := Aside0.mk (blk_drew BK544.out)
                        have n1_ := Aside0.mk (blk_drew BK545.out)
                        have n2_ := Aside0.mk (below_drew1 HB.out)
                        clear BK544
                        clear BK545
                        clear HB
                        have BK544 := n0_
                        have BK545 := n1_
                        have HB := n2_
                        clear n0_ n1_ n2_
                        refine start_ (n := 23) (S := fun w' => w'.cell? ⟨gb545, 0, none⟩ = some (.int .i64 a2_0) ∧ w'.cell? ⟨gb545, 1, none⟩ = some (.int .i64 a2_1) ∧ w'.cell? ⟨gb545, 2, none⟩ = some (.int .i64 a2_2) ∧ w'.cell? ⟨gb545, 3, none⟩ = some (.float .f64 a2_3) ∧ w'.cell? ⟨gb545, 4, none⟩ = some (.string a2_4) ∧ w'.cell? ⟨gb545, 5, none⟩ = some (.int .i64 a2_5) ∧ w'.cell? ⟨gb545, 6, none⟩ = some (.int .i64 a2_6) ∧ w'.cell? ⟨gb545, 7, none⟩ = some (.float .f64 a2_7) ∧ w'.cell? ⟨gb545, 8, none⟩ = some (.string a2_8) ∧ w'.cell? ⟨gb545, 9, none⟩ = some (.slice A2_9 l2_9.length c2_9)) (ds := []) #[false, false, false, false, false, false, false, false, false, false, false, false, false, false, false, false, false, false, false, false, false, false, false] (by kernel_rfl) rfl rfl ⟨(blk_cell BK545.out 0).trans rfl, (blk_cell BK545.out 1).trans rfl, (blk_cell BK545.out 2).trans rfl, (blk_cell BK545.out 3).trans rfl, (blk_cell BK545.out 4).trans rfl, (blk_cell BK545.out 5).trans rfl, (blk_cell BK545.out 6).trans rfl, (blk_cell BK545.out 7).trans rfl, (blk_cell BK545.out 8).trans rfl, (blk_cell BK545.out 9).trans rfl⟩ (fun hHeld => ?_); refine with_tabW colonnaderef14_Sound.tab13 colonnaderef14_Sound.bits13 (fun HT_ HW_ => ?_)
                        generalize w23.drew = w26 at BK544 BK545 HB hHeld ⊢
                        refine pureP #[true, false, false, false, false, false, false, false, false, false, false, false, false, false, false, false, false, false, false, false, false, false, false] (any_of HT_.out (by kernel_rfl)) (i := 0) (N := some 43) ?_
                        refine takeP #[true, true, false, false, false, false, false, false, false, false, false, false, false, false, false, false, false, false, false, false, false, false, false] (take_ofW HT_.out HW_.out (by kernel_rfl)) hHeld (i := 1) (N := some 44) ?_
                        refine one_ (i := 2) (N := some 45) #[true, true, true, false, false, false, false, false, false, false, false, false, false, false, false, false, false, false, false, false, false, false, false] rfl rfl (one_of HT_.out (by kernel_rfl)) (by decide) (fun K hK => ?_)
                        refine goes_ Try.func55 (by kernel_rfl) rfl #[.agg #[.int .i64 a2_1, .int .i64 a2_2, .float .f64 a2_3, .string a2_4]] (by rfl) rfl rfl (by (try simp only [List.map_toArray, List.map_cons, List.map_nil]); first | done | rfl | (simp only [List.length_drop, List.length_take]; rfl)) ?_
                        with_reducible refine (colonnaderef14_empty.calls a2_1 a2_2 a2_3 a2_4 true _ A24.out).mono ?_
                        rintro e w27 ⟨rfl, hb⟩
                        refine ⟨_, rfl, ?_⟩
                        have n0_ := blkS BK544 hb
                        have n1_ := blkS BK545 hb
                        have n2_ := Aside0.mk (below_step bel0 hb)
                        clear BK544
                        clear BK545
                        clear HB
                        have BK544 := n0_
                        have BK545 := n1_
                        have HB := n2_
                        clear n0_ n1_ n2_
                        (try clear hb)
                        (try clear hb2)
                        (try clear hk)
                        (try clear hi)
                        refine hK.out _ _ ⟨(blk_cell BK545.out 0).trans rfl, (blk_cell BK545.out 1).trans rfl, (blk_cell BK545.out 2).trans rfl, (blk_cell BK545.out 3).trans rfl, (blk_cell BK545.out 4).trans rfl, (blk_cell BK545.out 5).trans rfl, (blk_cell BK545.out 6).trans rfl, (blk_cell BK545.out 7).trans rfl, (blk_cell BK545.out 8).trans rfl, (blk_cell BK545.out 9).trans rfl⟩ (fun hHeld => ?_)
                        clear hK K
                        refine norm_ (a' := ?_) ?_ ?_
                        rotate_left
                        · show Act.put _ (some 45) _ = _
                          simp only [Act.put, List.setIfInBounds_toArray, List.set_cons_zero, List.set_cons_succ, i64_w, i32_w]
                          rfl
                        refine pureP #[true, true, true, true, false, false, false, false, false, false, false, false, false, false, false, false, false, false, false, false, false, false, false] (any_of HT_.out (by kernel_rfl)) (i := 3) (N := some 46) ?_
                        refine pureO #[true, true, true, true, true, false, false, false, false, false, false, false, false, false, false, false, false, false, false, false, false, false, false] (any_of HT_.out (by kernel_rfl)) (i := 4) (N := some 47) ?_
                        refine pureO #[true, true, true, true, true, true, false, false, false, false, false, false, false, false, false, false, false, false, false, false, false, false, false] (any_of HT_.out (by kernel_rfl)) (i := 5) (N := some 48) ?_
                        refine pureO #[true, true, true, true, true, true, true, false, false, false, false, false, false, false, false, false, false, false, false, false, false, false, false] (any_of HT_.out (by kernel_rfl)) (i := 6) (N := some 49) ?_
                        refine pureO #[true, true, true, true, true, true, true, true, false, false, false, false, false, false, false, false, false, false, false, false, false, false, false] (any_of HT_.out (by kernel_rfl)) (i := 7) (N := some 50) ?_
                        refine pureO #[true, true, true, true, true, true, true, true, true, false, false, false, false, false, false, false, false, false, false, false, false, false, false] (any_of HT_.out (by kernel_rfl)) (i := 8) (N := some 51) ?_
                        refine pureO #[true, true, true, true, true, true, true, true, true, true, false, false, false, false, false, false, false, false, false, false, false, false, false] (any_of HT_.out (by kernel_rfl)) (i := 9) (N := some 52) ?_
                        refine pureO #[true, true, true, true, true, true, true, true, true, true, true, false, false, false, false, false, false, false, false, false, false, false, false] (any_of HT_.out (by kernel_rfl)) (i := 10) (N := some 53) ?_
                        refine pureO #[true, true, true, true, true, true, true, true, true, true, true, true, false, false, false, false, false, false, false, false, false, false, false] (any_of HT_.out (by kernel_rfl)) (i := 11) (N := some 54) ?_
                        refine pureP #[true, true, true, true, true, true, true, true, true, true, true, true, true, false, false, false, false, false, false, false, false, false, false] (any_of HT_.out (by kernel_rfl)) (i := 12) (N := some 55) ?_
                        refine pureP #[true, true, true, true, true, true, true, true, true, true, true, true, true, true, false, false, false, false, false, false, false, false, false] (any_of HT_.out (by kernel_rfl)) (i := 13) (N := some 56) ?_
                        refine pureO #[true, true, true, true, true, true, true, true, true, true, true, true, true, true, true, false, false, false, false, false, false, false, false] (any_of HT_.out (by kernel_rfl)) (i := 14) (N := some 57) ?_
                        refine pureO #[true, true, true, true, true, true, true, true, true, true, true, true, true, true, true, true, false, false, false, false, false, false, false] (any_of HT_.out (by kernel_rfl)) (i := 15) (N := some 58) ?_
                        refine pureO #[true, true, true, true, true, true, true, true, true, true, true, true, true, true, true, true, true, false, false, false, false, false, false] (any_of HT_.out (by kernel_rfl)) (i := 16) (N := some 59) ?_
                        refine pureO #[true, true, true, true, true, true, true, true, true, true, true, true, true, true, true, true, true, true, false, false, false, false, false] (any_of HT_.out (by kernel_rfl)) (i := 17) (N := some 60) ?_
                        refine pureO #[true, true, true, true, true, true, true, true, true, true, true, true, true, true, true, true, true, true, true, false, false, false, false] (any_of HT_.out (by kernel_rfl)) (i := 18) (N := some 61) ?_
                        refine pureO #[true, true, true, true, true, true, true, true, true, true, true, true, true, true, true, true, true, true, true, true, false, false, false] (any_of HT_.out (by kernel_rfl)) (i := 19) (N := some 62) ?_
                        refine pureO #[true, true, true, true, true, true, true, true, true, true, true, true, true, true, true, true, true, true, true, true, true, false, false] (any_of HT_.out (by kernel_rfl)) (i := 20) (N := some 63) ?_
                        refine pureO #[true, true, true, true, true, true, true, true, true, true, true, true, true, true, true, true, true, true, true, true, true, true, false] (any_of HT_.out (by kernel_rfl)) (i := 21) (N := some 64) ?_
                        refine pureP #[true, true, true, true, true, true, true, true, true, true, true, true, true, true, true, true, true, true, true, true, true, true, true] (any_of HT_.out (by kernel_rfl)) (i := 22) (N := some 65) ?_
                        refine done_ (done_of HT_.out (by kernel_rfl)) ?_
                        try go_wp2
                        go_meet
                        case rel => exact ⟨_, (true), (by first | rfl | (simp; done) | (simp [*]; done)), H', ⟨by have := HJ4.out; have := HK2.out; first | omega | exact Nat.le_refl _⟩, ⟨by (with_reducible repeat (first | refine blk_drewN ?_ _ | refine blk_drew ?_ | refine blk_alloc ?_ _)); exact BK544.out⟩, ⟨by (with_reducible repeat (first | refine blk_drewN ?_ _ | refine blk_drew ?_ | refine blk_alloc ?_ _)); exact BK545.out⟩, ⟨bel0⟩⟩
                      · replace c25 := Bool.eq_false_iff.mpr c25
                        subst c25
                        rw [if_neg (show ¬ (false = true) by decide)] at H
                        replace H := Option.bind_eq_some_iff.mp H
                        obtain ⟨t553, A280, H⟩ := H
                        (try dsimp only at H)
                        have A28 := Aside0.mk A280
                        clear A280
                        by_cases c29 : t553 < 0
                        · rw [if_pos c29] at H
                          have c29b0 : decide (t553 < 0) = true := decide_eq_true c29
                          clear c29
                          (first | rw [c29b0] | (simp only [i64_w, i32_w]; rw [c29b0]) | skip)
                          have H' := Aside0.mk H
                          clear H
                          try go_wp2
                          have n0_ := Aside0.mk (blk_drew BK544.out)
                          have n1_ := Aside0.mk (blk_drew BK545.out)
                          have n2_ := Aside0.mk (below_drew1 HB.out)
                          clear BK544
                          clear BK545
                          clear HB
                          have BK544 := n0_
                          have BK545 := n1_
                          have HB := n2_
                          clear n0_ n1_ n2_
                          have p552 : 0 ≤ (x9_2 : Int) := of_decide_eq_true (by first | (with_reducible assumption) | assumption)
                          have q552 : x9_2 < (l1.length : Int) := of_decide_eq_true (by first | (with_reducible assumption) | assumption)
                          obtain ⟨ad552, e552, hx552_0, hx552_1, hx552_2, hx552_3⟩ := at_T28 HR1.out x9_2 p552 q552
                          have hw552_3 := hx552_3
                          have hw552_2 := hx552_2
                          have hw552_1 := hx552_1
                          have hw552_0 := hx552_0
                          obtain rfl : ad548 = ad552 := (by injection e552)
                          replace hx552_0 := (HB.out.cell (World.block_lt_of_cell? w _ hx552_0)).trans hx552_0
                          replace hx552_1 := (HB.out.cell (World.block_lt_of_cell? w _ hx552_1)).trans hx552_1
                          replace hx552_2 := (HB.out.cell (World.block_lt_of_cell? w _ hx552_2)).trans hx552_2
                          replace hx552_3 := (HB.out.cell (World.block_lt_of_cell? w _ hx552_3)).trans hx552_3
                          replace p552 := eq_true p552
                          replace q552 := eq_true q552
                          refine start_ (n := 23) (S := fun w' => w'.cell? ⟨gb545, 0, none⟩ = some (.int .i64 a2_0) ∧ w'.cell? ⟨gb545, 1, none⟩ = some (.int .i64 a2_1) ∧ w'.cell? ⟨gb545, 2, none⟩ = some (.int .i64 a2_2) ∧ w'.cell? ⟨gb545, 3, none⟩ = some (.float .f64 a2_3) ∧ w'.cell? ⟨gb545, 4, none⟩ = some (.string a2_4) ∧ w'.cell? ⟨gb545, 5, none⟩ = some (.int .i64 a2_5) ∧ w'.cell? ⟨gb545, 6, none⟩ = some (.int .i64 a2_6) ∧ w'.cell? ⟨gb545, 7, none⟩ = some (.float .f64 a2_7) ∧ w'.cell? ⟨gb545, 8, none⟩ = some (.string a2_8) ∧ w'.cell? ⟨gb545, 9, none⟩ = some (.slice A2_9 l2_9.length c2_9) ∧ w'.cell? (ad548.add ((x9_2).toNat * 4)) = some (.int .i64 ((rd_T28 l1 x9_2).f0)) ∧ w'.cell? ⟨(ad548.add ((x9_2).toNat * 4)).block, (ad548.add ((x9_2).toNat * 4)).off + 1, none⟩ = some (.int .i64 ((rd_T28 l1 x9_2).f1)) ∧ w'.cell? ⟨(ad548.add ((x9_2).toNat * 4)).block, (ad548.add ((x9_2).toNat * 4)).off + 2, none⟩ = some (.float .f64 ((rd_T28 l1 x9_2).f2)) ∧ w'.cell? ⟨(ad548.add ((x9_2).toNat * 4)).block, (ad548.add ((x9_2).toNat * 4)).off + 3, none⟩ = some (.string ((rd_T28 l1 x9_2).f3))) (ds := []) #[false, false, false, false, false, false, false, false, false, false, false, false, false, false, false, false, false, false, false, false, false, false, false] (by kernel_rfl) rfl rfl ⟨(blk_cell BK545.out 0).trans rfl, (blk_cell BK545.out 1).trans rfl, (blk_cell BK545.out 2).trans rfl, (blk_cell BK545.out 3).trans rfl, (blk_cell BK545.out 4).trans rfl, (blk_cell BK545.out 5).trans rfl, (blk_cell BK545.out 6).trans rfl, (blk_cell BK545.out 7).trans rfl, (blk_cell BK545.out 8).trans rfl, (blk_cell BK545.out 9).trans rfl, ((HB.out.cell (World.block_lt_of_cell? w _ hw552_0)).trans hw552_0), ((HB.out.cell (World.block_lt_of_cell? w _ hw552_1)).trans hw552_1), ((HB.out.cell (World.block_lt_of_cell? w _ hw552_2)).trans hw552_2), ((HB.out.cell (World.block_lt_of_cell? w _ hw552_3)).trans hw552_3)⟩ (fun hHeld => ?_); refine with_tabW colonnaderef14_Sound.tab13 colonnaderef14_Sound.bits13 (fun HT_ HW_ => ?_)
                          generalize w23.drew = w30 at BK544 BK545 HB hx552_0 hx552_1 hx552_2 hx552_3 hHeld ⊢
                          refine pureP #[true, false, false, false, false, false, false, false, false, false, false, false, false, false, false, false, false, false, false, false, false, false, false] (any_of HT_.out (by kernel_rfl)) (i := 0) (N := some 43) ?_
                          refine takeP #[true, true, false, false, false, false, false, false, false, false, false, false, false, false, false, false, false, false, false, false, false, false, false] (take_ofW HT_.out HW_.out (by kernel_rfl)) hHeld (i := 1) (N := some 44) ?_
                          refine one_ (i := 2) (N := some 45) #[true, true, true, false, false, false, false, false, false, false, false, false, false, false, false, false, false, false, false, false, false, false, false] rfl rfl (one_of HT_.out (by kernel_rfl)) (by decide) (fun K hK => ?_)
                          refine goes_ Try.func55 (by kernel_rfl) rfl #[.agg #[.int .i64 a2_1, .int .i64 a2_2, .float .f64 a2_3, .string a2_4]] (by rfl) rfl rfl (by (try simp only [List.map_toArray, List.map_cons, List.map_nil]); first | done | rfl | (simp only [List.length_drop, List.length_take]; rfl)) ?_
                          with_reducible refine (colonnaderef14_empty.calls a2_1 a2_2 a2_3 a2_4 false _ A24.out).mono ?_
                          rintro e w31 ⟨rfl, hb⟩
                          refine ⟨_, rfl, ?_⟩
                          have n0_ := blkS BK544 hb
                          have n1_ := blkS BK545 hb
                          have n2_ := Aside0.mk (below_step bel0 hb)
                          clear BK544
                          clear BK545
                          clear HB
                          have BK544 := n0_
                          have BK545 := n1_
                          have HB := n2_
                          clear n0_ n1_ n2_
                          (try clear hb)
                          (try clear hb2)
                          (try clear hk)
                          (try clear hi)
                          refine hK.out _ _ ⟨(blk_cell BK545.out 0).trans rfl, (blk_cell BK545.out 1).trans rfl, (blk_cell BK545.out 2).trans rfl, (blk_cell BK545.out 3).trans rfl, (blk_cell BK545.out 4).trans rfl, (blk_cell BK545.out 5).trans rfl, (blk_cell BK545.out 6).trans rfl, (blk_cell BK545.out 7).trans rfl, (blk_cell BK545.out 8).trans rfl, (blk_cell BK545.out 9).trans rfl, ((HB.out.cell (World.block_lt_of_cell? w _ hw552_0)).trans hw552_0), ((HB.out.cell (World.block_lt_of_cell? w _ hw552_1)).trans hw552_1), ((HB.out.cell (World.block_lt_of_cell? w _ hw552_2)).trans hw552_2), ((HB.out.cell (World.block_lt_of_cell? w _ hw552_3)).trans hw552_3)⟩ (fun hHeld => ?_)
                          clear hK K
                          refine norm_ (a' := ?_) ?_ ?_
                          rotate_left
                          · show Act.put _ (some 45) _ = _
                            simp only [Act.put, List.setIfInBounds_toArray, List.set_cons_zero, List.set_cons_succ, i64_w, i32_w]
                            rfl
                          refine pureP #[true, true, true, true, false, false, false, false, false, false, false, false, false, false, false, false, false, false, false, false, false, false, false] (any_of HT_.out (by kernel_rfl)) (i := 3) (N := some 46) ?_
                          refine pureP #[true, true, true, true, true, false, false, false, false, false, false, false, false, false, false, false, false, false, false, false, false, false, false] (any_of HT_.out (by kernel_rfl)) (i := 4) (N := some 47) ?_
                          refine pureP #[true, true, true, true, true, true, false, false, false, false, false, false, false, false, false, false, false, false, false, false, false, false, false] (any_of HT_.out (by kernel_rfl)) (i := 5) (N := some 48) ?_
                          refine pureP #[true, true, true, true, true, true, true, false, false, false, false, false, false, false, false, false, false, false, false, false, false, false, false] (any_of HT_.out (by kernel_rfl)) (i := 6) (N := some 49) ?_
                          refine pureP #[true, true, true, true, true, true, true, false, true, false, false, false, false, false, false, false, false, false, false, false, false, false, false] (any_of HT_.out (by kernel_rfl)) (i := 8) (N := some 51) ?_
                          refine takeP #[true, true, true, true, true, true, true, true, true, false, false, false, false, false, false, false, false, false, false, false, false, false, false] (take_ofW HT_.out HW_.out (by kernel_rfl)) hHeld (i := 7) (N := some 50) ?_
                          refine takeP #[true, true, true, true, true, true, true, true, true, true, false, false, false, false, false, false, false, false, false, false, false, false, false] (take_ofW HT_.out HW_.out (by kernel_rfl)) hHeld (i := 9) (N := some 52) ?_
                          refine one_ (i := 10) (N := some 53) #[true, true, true, true, true, true, true, true, true, true, true, false, false, false, false, false, false, false, false, false, false, false, false] rfl rfl (one_of HT_.out (by kernel_rfl)) (by decide) (fun K hK => ?_)
                          refine goes_ Try.func46 (by kernel_rfl) rfl #[.agg #[.int .i64 ((rd_T28 l1 x9_2).f0), .int .i64 ((rd_T28 l1 x9_2).f1), .float .f64 ((rd_T28 l1 x9_2).f2), .string ((rd_T28 l1 x9_2).f3)], .agg #[.int .i64 a2_1, .int .i64 a2_2, .float .f64 a2_3, .string a2_4]] (by rfl) rfl rfl (by (try simp only [List.map_toArray, List.map_cons, List.map_nil]); first | done | rfl | (simp only [List.length_drop, List.length_take]; rfl)) ?_
                          with_reducible refine (colonnaderef05_Compare.calls k2 ((rd_T28 l1 x9_2).f0) ((rd_T28 l1 x9_2).f1) ((rd_T28 l1 x9_2).f2) ((rd_T28 l1 x9_2).f3) a2_1 a2_2 a2_3 a2_4 t553 _ A28.out).mono ?_
                          rintro e w32 ⟨rfl, hb⟩
                          refine ⟨_, rfl, ?_⟩
                          have n0_ := blkS BK544 hb
                          have n1_ := blkS BK545 hb
                          have n2_ := Aside0.mk (below_step bel0 hb)
                          clear BK544
                          clear BK545
                          clear HB
                          have BK544 := n0_
                          have BK545 := n1_
                          have HB := n2_
                          clear n0_ n1_ n2_
                          (try clear hb)
                          (try clear hb2)
                          (try clear hk)
                          (try clear hi)
                          refine hK.out _ _ ⟨(blk_cell BK545.out 0).trans rfl, (blk_cell BK545.out 1).trans rfl, (blk_cell BK545.out 2).trans rfl, (blk_cell BK545.out 3).trans rfl, (blk_cell BK545.out 4).trans rfl, (blk_cell BK545.out 5).trans rfl, (blk_cell BK545.out 6).trans rfl, (blk_cell BK545.out 7).trans rfl, (blk_cell BK545.out 8).trans rfl, (blk_cell BK545.out 9).trans rfl, ((HB.out.cell (World.block_lt_of_cell? w _ hw552_0)).trans hw552_0), ((HB.out.cell (World.block_lt_of_cell? w _ hw552_1)).trans hw552_1), ((HB.out.cell (World.block_lt_of_cell? w _ hw552_2)).trans hw552_2), ((HB.out.cell (World.block_lt_of_cell? w _ hw552_3)).trans hw552_3)⟩ (fun hHeld => ?_)
                          clear hK K
                          refine norm_ (a' := ?_) ?_ ?_
                          rotate_left
                          · show Act.put _ (some 53) _ = _
                            simp only [Act.put, List.setIfInBounds_toArray, List.set_cons_zero, List.set_cons_succ, i64_w, i32_w]
                            rfl
                          refine pureP #[true, true, true, true, true, true, true, true, true, true, true, true, false, false, false, false, false, false, false, false, false, false, false] (any_of HT_.out (by kernel_rfl)) (i := 11) (N := some 54) ?_
                          refine pureP #[true, true, true, true, true, true, true, true, true, true, true, true, true, false, false, false, false, false, false, false, false, false, false] (any_of HT_.out (by kernel_rfl)) (i := 12) (N := some 55) ?_
                          refine pureP #[true, true, true, true, true, true, true, true, true, true, true, true, true, true, false, false, false, false, false, false, false, false, false] (any_of HT_.out (by kernel_rfl)) (i := 13) (N := some 56) ?_
                          refine pureO #[true, true, true, true, true, true, true, true, true, true, true, true, true, true, true, false, false, false, false, false, false, false, false] (any_of HT_.out (by kernel_rfl)) (i := 14) (N := some 57) ?_
                          refine pureO #[true, true, true, true, true, true, true, true, true, true, true, true, true, true, true, true, false, false, false, false, false, false, false] (any_of HT_.out (by kernel_rfl)) (i := 15) (N := some 58) ?_
                          refine pureO #[true, true, true, true, true, true, true, true, true, true, true, true, true, true, true, true, true, false, false, false, false, false, false] (any_of HT_.out (by kernel_rfl)) (i := 16) (N := some 59) ?_
                          refine pureO #[true, true, true, true, true, true, true, true, true, true, true, true, true, true, true, true, true, true, false, false, false, false, false] (any_of HT_.out (by kernel_rfl)) (i := 17) (N := some 60) ?_
                          refine pureO #[true, true, true, true, true, true, true, true, true, true, true, true, true, true, true, true, true, true, true, false, false, false, false] (any_of HT_.out (by kernel_rfl)) (i := 18) (N := some 61) ?_
                          refine pureO #[true, true, true, true, true, true, true, true, true, true, true, true, true, true, true, true, true, true, true, true, false, false, false] (any_of HT_.out (by kernel_rfl)) (i := 19) (N := some 62) ?_
                          refine pureO #[true, true, true, true, true, true, true, true, true, true, true, true, true, true, true, true, true, true, true, true, true, false, false] (any_of HT_.out (by kernel_rfl)) (i := 20) (N := some 63) ?_
                          refine pureO #[true, true, true, true, true, true, true, true, true, true, true, true, true, true, true, true, true, true, true, true, true, true, false] (any_of HT_.out (by kernel_rfl)) (i := 21) (N := some 64) ?_
                          refine pureP #[true, true, true, true, true, true, true, true, true, true, true, true, true, true, true, true, true, true, true, true, true, true, true] (any_of HT_.out (by kernel_rfl)) (i := 22) (N := some 65) ?_
                          refine done_ (done_of HT_.out (by kernel_rfl)) ?_
                          try go_wp2
                          go_meet
                          case rel => exact ⟨_, (true), (by first | rfl | (simp; done) | (simp [*]; done)), H', ⟨by have := HJ4.out; have := HK2.out; first | omega | exact Nat.le_refl _⟩, ⟨by (with_reducible repeat (first | refine blk_drewN ?_ _ | refine blk_drew ?_ | refine blk_alloc ?_ _)); exact BK544.out⟩, ⟨by (with_reducible repeat (first | refine blk_drewN ?_ _ | refine blk_drew ?_ | refine blk_alloc ?_ _)); exact BK545.out⟩, ⟨bel0⟩⟩
                        · rw [if_neg c29] at H
                          have c29b0 : decide (t553 < 0) = false := decide_eq_false c29
                          clear c29
                          (first | rw [c29b0] | (simp only [i64_w, i32_w]; rw [c29b0]) | skip)
                          replace H := Option.bind_eq_some_iff.mp H
                          obtain ⟨t555, A330, H⟩ := H
                          (try dsimp only at H)
                          have A33 := Aside0.mk A330
                          clear A330
                          have H' := Aside0.mk H
                          clear H
                          try go_wp2
                          have n0_ := Aside0.mk (blk_drew BK544.out)
                          have n1_ := Aside0.mk (blk_drew BK545.out)
                          have n2_ := Aside0.mk (below_drew1 HB.out)
                          clear BK544
                          clear BK545
                          clear HB
                          have BK544 := n0_
                          have BK545 := n1_
                          have HB := n2_
                          clear n0_ n1_ n2_
                          have p552 : 0 ≤ (x9_2 : Int) := of_decide_eq_true (by first | (with_reducible assumption) | assumption)
                          have q552 : x9_2 < (l1.length : Int) := of_decide_eq_true (by first | (with_reducible assumption) | assumption)
                          obtain ⟨ad552, e552, hx552_0, hx552_1, hx552_2, hx552_3⟩ := at_T28 HR1.out x9_2 p552 q552
                          have hw552_3 := hx552_3
                          have hw552_2 := hx552_2
                          have hw552_1 := hx552_1
                          have hw552_0 := hx552_0
                          obtain rfl : ad548 = ad552 := (by injection e552)
                          replace hx552_0 := (HB.out.cell (World.block_lt_of_cell? w _ hx552_0)).trans hx552_0
                          replace hx552_1 := (HB.out.cell (World.block_lt_of_cell? w _ hx552_1)).trans hx552_1
                          replace hx552_2 := (HB.out.cell (World.block_lt_of_cell? w _ hx552_2)).trans hx552_2
                          replace hx552_3 := (HB.out.cell (World.block_lt_of_cell? w _ hx552_3)).trans hx552_3
                          replace p552 := eq_true p552
                          replace q552 := eq_true q552
                          have p554 : 0 ≤ (x9_2 : Int) := of_decide_eq_true (by first | (with_reducible assumption) | assumption)
                          have q554 : x9_2 < (l1.length : Int) := of_decide_eq_true (by first | (with_reducible assumption) | assumption)
                          obtain ⟨ad554, e554, hx554_0, hx554_1, hx554_2, hx554_3⟩ := at_T28 HR1.out x9_2 p554 q554
                          have hw554_3 := hx554_3
                          have hw554_2 := hx554_2
                          have hw554_1 := hx554_1
                          have hw554_0 := hx554_0
                          obtain rfl : ad548 = ad554 := (by injection e554)
                          replace hx554_0 := (HB.out.cell (World.block_lt_of_cell? w _ hx554_0)).trans hx554_0
                          replace hx554_1 := (HB.out.cell (World.block_lt_of_cell? w _ hx554_1)).trans hx554_1
                          replace hx554_2 := (HB.out.cell (World.block_lt_of_cell? w _ hx554_2)).trans hx554_2
                          replace hx554_3 := (HB.out.cell (World.block_lt_of_cell? w _ hx554_3)).trans hx554_3
                          replace p554 := eq_true p554
                          replace q554 := eq_true q554
                          refine start_ (n := 23) (S := fun w' => w'.cell? ⟨gb545, 0, none⟩ = some (.int .i64 a2_0) ∧ w'.cell? ⟨gb545, 1, none⟩ = some (.int .i64 a2_1) ∧ w'.cell? ⟨gb545, 2, none⟩ = some (.int .i64 a2_2) ∧ w'.cell? ⟨gb545, 3, none⟩ = some (.float .f64 a2_3) ∧ w'.cell? ⟨gb545, 4, none⟩ = some (.string a2_4) ∧ w'.cell? ⟨gb545, 5, none⟩ = some (.int .i64 a2_5) ∧ w'.cell? ⟨gb545, 6, none⟩ = some (.int .i64 a2_6) ∧ w'.cell? ⟨gb545, 7, none⟩ = some (.float .f64 a2_7) ∧ w'.cell? ⟨gb545, 8, none⟩ = some (.string a2_8) ∧ w'.cell? ⟨gb545, 9, none⟩ = some (.slice A2_9 l2_9.length c2_9) ∧ w'.cell? (ad548.add ((x9_2).toNat * 4)) = some (.int .i64 ((rd_T28 l1 x9_2).f0)) ∧ w'.cell? ⟨(ad548.add ((x9_2).toNat * 4)).block, (ad548.add ((x9_2).toNat * 4)).off + 1, none⟩ = some (.int .i64 ((rd_T28 l1 x9_2).f1)) ∧ w'.cell? ⟨(ad548.add ((x9_2).toNat * 4)).block, (ad548.add ((x9_2).toNat * 4)).off + 2, none⟩ = some (.float .f64 ((rd_T28 l1 x9_2).f2)) ∧ w'.cell? ⟨(ad548.add ((x9_2).toNat * 4)).block, (ad548.add ((x9_2).toNat * 4)).off + 3, none⟩ = some (.string ((rd_T28 l1 x9_2).f3)) ∧ w'.cell? (ad548.add ((x9_2).toNat * 4)) = some (.int .i64 ((rd_T28 l1 x9_2).f0)) ∧ w'.cell? ⟨(ad548.add ((x9_2).toNat * 4)).block, (ad548.add ((x9_2).toNat * 4)).off + 1, none⟩ = some (.int .i64 ((rd_T28 l1 x9_2).f1)) ∧ w'.cell? ⟨(ad548.add ((x9_2).toNat * 4)).block, (ad548.add ((x9_2).toNat * 4)).off + 2, none⟩ = some (.float .f64 ((rd_T28 l1 x9_2).f2)) ∧ w'.cell? ⟨(ad548.add ((x9_2).toNat * 4)).block, (ad548.add ((x9_2).toNat * 4)).off + 3, none⟩ = some (.string ((rd_T28 l1 x9_2).f3))) (ds := []) #[false, false, false, false, false, false, false, false, false, false, false, false, false, false, false, false, false, false, false, false, false, false, false] (by kernel_rfl) rfl rfl ⟨(blk_cell BK545.out 0).trans rfl, (blk_cell BK545.out 1).trans rfl, (blk_cell BK545.out 2).trans rfl, (blk_cell BK545.out 3).trans rfl, (blk_cell BK545.out 4).trans rfl, (blk_cell BK545.out 5).trans rfl, (blk_cell BK545.out 6).trans rfl, (blk_cell BK545.out 7).trans rfl, (blk_cell BK545.out 8).trans rfl, (blk_cell BK545.out 9).trans rfl, ((HB.out.cell (World.block_lt_of_cell? w _ hw552_0)).trans hw552_0), ((HB.out.cell (World.block_lt_of_cell? w _ hw552_1)).trans hw552_1), ((HB.out.cell (World.block_lt_of_cell? w _ hw552_2)).trans hw552_2), ((HB.out.cell (World.block_lt_of_cell? w _ hw552_3)).trans hw552_3), ((HB.out.cell (World.block_lt_of_cell? w _ hw554_0)).trans hw554_0), ((HB.out.cell (World.block_lt_of_cell? w _ hw554_1)).trans hw554_1), ((HB.out.cell (World.block_lt_of_cell? w _ hw554_2)).trans hw554_2), ((HB.out.cell (World.block_lt_of_cell? w _ hw554_3)).trans hw554_3)⟩ (fun hHeld => ?_); refine with_tabW colonnaderef14_Sound.tab13 colonnaderef14_Sound.bits13 (fun HT_ HW_ => ?_)
                          generalize w23.drew = w34 at BK544 BK545 HB hx552_0 hx552_1 hx552_2 hx552_3 hx554_0 hx554_1 hx554_2 hx554_3 hHeld ⊢
                          refine pureP #[true, false, false, false, false, false, false, false, false, false, false, false, false, false, false, false, false, false, false, false, false, false, false] (any_of HT_.out (by kernel_rfl)) (i := 0) (N := some 43) ?_
                          refine takeP #[true, true, false, false, false, false, false, false, false, false, false, false, false, false, false, false, false, false, false, false, false, false, false] (take_ofW HT_.out HW_.out (by kernel_rfl)) hHeld (i := 1) (N := some 44) ?_
                          refine one_ (i := 2) (N := some 45) #[true, true, true, false, false, false, false, false, false, false, false, false, false, false, false, false, false, false, false, false, false, false, false] rfl rfl (one_of HT_.out (by kernel_rfl)) (by decide) (fun K hK => ?_)
                          refine goes_ Try.func55 (by kernel_rfl) rfl #[.agg #[.int .i64 a2_1, .int .i64 a2_2, .float .f64 a2_3, .string a2_4]] (by rfl) rfl rfl (by (try simp only [List.map_toArray, List.map_cons, List.map_nil]); first | done | rfl | (simp only [List.length_drop, List.length_take]; rfl)) ?_
                          with_reducible refine (colonnaderef14_empty.calls a2_1 a2_2 a2_3 a2_4 false _ A24.out).mono ?_
                          rintro e w35 ⟨rfl, hb⟩
                          refine ⟨_, rfl, ?_⟩
                          have n0_ := blkS BK544 hb
                          have n1_ := blkS BK545 hb
                          have n2_ := Aside0.mk (below_step bel0 hb)
                          clear BK544
                          clear BK545
                          clear HB
                          have BK544 := n0_
                          have BK545 := n1_
                          have HB := n2_
                          clear n0_ n1_ n2_
                          (try clear hb)
                          (try clear hb2)
                          (try clear hk)
                          (try clear hi)
                          refine hK.out _ _ ⟨(blk_cell BK545.out 0).trans rfl, (blk_cell BK545.out 1).trans rfl, (blk_cell BK545.out 2).trans rfl, (blk_cell BK545.out 3).trans rfl, (blk_cell BK545.out 4).trans rfl, (blk_cell BK545.out 5).trans rfl, (blk_cell BK545.out 6).trans rfl, (blk_cell BK545.out 7).trans rfl, (blk_cell BK545.out 8).trans rfl, (blk_cell BK545.out 9).trans rfl, ((HB.out.cell (World.block_lt_of_cell? w _ hw552_0)).trans hw552_0), ((HB.out.cell (World.block_lt_of_cell? w _ hw552_1)).trans hw552_1), ((HB.out.cell (World.block_lt_of_cell? w _ hw552_2)).trans hw552_2), ((HB.out.cell (World.block_lt_of_cell? w _ hw552_3)).trans hw552_3), ((HB.out.cell (World.block_lt_of_cell? w _ hw554_0)).trans hw554_0), ((HB.out.cell (World.block_lt_of_cell? w _ hw554_1)).trans hw554_1), ((HB.out.cell (World.block_lt_of_cell? w _ hw554_2)).trans hw554_2), ((HB.out.cell (World.block_lt_of_cell? w _ hw554_3)).trans hw554_3)⟩ (fun hHeld => ?_)
                          clear hK K
                          refine norm_ (a' := ?_) ?_ ?_
                          rotate_left
                          · show Act.put _ (some 45) _ = _
                            simp only [Act.put, List.setIfInBounds_toArray, List.set_cons_zero, List.set_cons_succ, i64_w, i32_w]
                            rfl
                          refine pureP #[true, true, true, true, false, false, false, false, false, false, false, false, false, false, false, false, false, false, false, false, false, false, false] (any_of HT_.out (by kernel_rfl)) (i := 3) (N := some 46) ?_
                          refine pureP #[true, true, true, true, true, false, false, false, false, false, false, false, false, false, false, false, false, false, false, false, false, false, false] (any_of HT_.out (by kernel_rfl)) (i := 4) (N := some 47) ?_
                          refine pureP #[true, true, true, true, true, true, false, false, false, false, false, false, false, false, false, false, false, false, false, false, false, false, false] (any_of HT_.out (by kernel_rfl)) (i := 5) (N := some 48) ?_
                          refine pureP #[true, true, true, true, true, true, true, false, false, false, false, false, false, false, false, false, false, false, false, false, false, false, false] (any_of HT_.out (by kernel_rfl)) (i := 6) (N := some 49) ?_
                          refine pureP #[true, true, true, true, true, true, true, false, true, false, false, false, false, false, false, false, false, false, false, false, false, false, false] (any_of HT_.out (by kernel_rfl)) (i := 8) (N := some 51) ?_
                          refine takeP #[true, true, true, true, true, true, true, true, true, false, false, false, false, false, false, false, false, false, false, false, false, false, false] (take_ofW HT_.out HW_.out (by kernel_rfl)) hHeld (i := 7) (N := some 50) ?_
                          refine takeP #[true, true, true, true, true, true, true, true, true, true, false, false, false, false, false, false, false, false, false, false, false, false, false] (take_ofW HT_.out HW_.out (by kernel_rfl)) hHeld (i := 9) (N := some 52) ?_
                          refine one_ (i := 10) (N := some 53) #[true, true, true, true, true, true, true, true, true, true, true, false, false, false, false, false, false, false, false, false, false, false, false] rfl rfl (one_of HT_.out (by kernel_rfl)) (by decide) (fun K hK => ?_)
                          refine goes_ Try.func46 (by kernel_rfl) rfl #[.agg #[.int .i64 ((rd_T28 l1 x9_2).f0), .int .i64 ((rd_T28 l1 x9_2).f1), .float .f64 ((rd_T28 l1 x9_2).f2), .string ((rd_T28 l1 x9_2).f3)], .agg #[.int .i64 a2_1, .int .i64 a2_2, .float .f64 a2_3, .string a2_4]] (by rfl) rfl rfl (by (try simp only [List.map_toArray, List.map_cons, List.map_nil]); first | done | rfl | (simp only [List.length_drop, List.length_take]; rfl)) ?_
                          with_reducible refine (colonnaderef05_Compare.calls k2 ((rd_T28 l1 x9_2).f0) ((rd_T28 l1 x9_2).f1) ((rd_T28 l1 x9_2).f2) ((rd_T28 l1 x9_2).f3) a2_1 a2_2 a2_3 a2_4 t553 _ A28.out).mono ?_
                          rintro e w36 ⟨rfl, hb⟩
                          refine ⟨_, rfl, ?_⟩
                          have n0_ := blkS BK544 hb
                          have n1_ := blkS BK545 hb
                          have n2_ := Aside0.mk (below_step bel0 hb)
                          clear BK544
                          clear BK545
                          clear HB
                          have BK544 := n0_
                          have BK545 := n1_
                          have HB := n2_
                          clear n0_ n1_ n2_
                          (try clear hb)
                          (try clear hb2)
                          (try clear hk)
                          (try clear hi)
                          refine hK.out _ _ ⟨(blk_cell BK545.out 0).trans rfl, (blk_cell BK545.out 1).trans rfl, (blk_cell BK545.out 2).trans rfl, (blk_cell BK545.out 3).trans rfl, (blk_cell BK545.out 4).trans rfl, (blk_cell BK545.out 5).trans rfl, (blk_cell BK545.out 6).trans rfl, (blk_cell BK545.out 7).trans rfl, (blk_cell BK545.out 8).trans rfl, (blk_cell BK545.out 9).trans rfl, ((HB.out.cell (World.block_lt_of_cell? w _ hw552_0)).trans hw552_0), ((HB.out.cell (World.block_lt_of_cell? w _ hw552_1)).trans hw552_1), ((HB.out.cell (World.block_lt_of_cell? w _ hw552_2)).trans hw552_2), ((HB.out.cell (World.block_lt_of_cell? w _ hw552_3)).trans hw552_3), ((HB.out.cell (World.block_lt_of_cell? w _ hw554_0)).trans hw554_0), ((HB.out.cell (World.block_lt_of_cell? w _ hw554_1)).trans hw554_1), ((HB.out.cell (World.block_lt_of_cell? w _ hw554_2)).trans hw554_2), ((HB.out.cell (World.block_lt_of_cell? w _ hw554_3)).trans hw554_3)⟩ (fun hHeld => ?_)
                          clear hK K
                          refine norm_ (a' := ?_) ?_ ?_
                          rotate_left
                          · show Act.put _ (some 53) _ = _
                            simp only [Act.put, List.setIfInBounds_toArray, List.set_cons_zero, List.set_cons_succ, i64_w, i32_w]
                            rfl
                          refine pureP #[true, true, true, true, true, true, true, true, true, true, true, true, false, false, false, false, false, false, false, false, false, false, false] (any_of HT_.out (by kernel_rfl)) (i := 11) (N := some 54) ?_
                          refine pureP #[true, true, true, true, true, true, true, true, true, true, true, true, true, false, false, false, false, false, false, false, false, false, false] (any_of HT_.out (by kernel_rfl)) (i := 12) (N := some 55) ?_
                          refine pureP #[true, true, true, true, true, true, true, true, true, true, true, true, true, true, false, false, false, false, false, false, false, false, false] (any_of HT_.out (by kernel_rfl)) (i := 13) (N := some 56) ?_
                          refine pureP #[true, true, true, true, true, true, true, true, true, true, true, true, true, true, true, false, false, false, false, false, false, false, false] (any_of HT_.out (by kernel_rfl)) (i := 14) (N := some 57) ?_
                          refine pureP #[true, true, true, true, true, true, true, true, true, true, true, true, true, true, true, true, false, false, false, false, false, false, false] (any_of HT_.out (by kernel_rfl)) (i := 15) (N := some 58) ?_
                          refine pureP #[true, true, true, true, true, true, true, true, true, true, true, true, true, true, true, true, true, false, false, false, false, false, false] (any_of HT_.out (by kernel_rfl)) (i := 16) (N := some 59) ?_
                          refine pureP #[true, true, true, true, true, true, true, true, true, true, true, true, true, true, true, true, true, false, true, false, false, false, false] (any_of HT_.out (by kernel_rfl)) (i := 18) (N := some 61) ?_
                          refine takeP #[true, true, true, true, true, true, true, true, true, true, true, true, true, true, true, true, true, true, true, false, false, false, false] (take_ofW HT_.out HW_.out (by kernel_rfl)) hHeld (i := 17) (N := some 60) ?_
                          refine takeP #[true, true, true, true, true, true, true, true, true, true, true, true, true, true, true, true, true, true, true, true, false, false, false] (take_ofW HT_.out HW_.out (by kernel_rfl)) hHeld (i := 19) (N := some 62) ?_
                          refine one_ (i := 20) (N := some 63) #[true, true, true, true, true, true, true, true, true, true, true, true, true, true, true, true, true, true, true, true, true, false, false] rfl rfl (one_of HT_.out (by kernel_rfl)) (by decide) (fun K hK => ?_)
                          refine goes_ Try.func46 (by kernel_rfl) rfl #[.agg #[.int .i64 ((rd_T28 l1 x9_2).f0), .int .i64 ((rd_T28 l1 x9_2).f1), .float .f64 ((rd_T28 l1 x9_2).f2), .string ((rd_T28 l1 x9_2).f3)], .agg #[.int .i64 a2_5, .int .i64 a2_6, .float .f64 a2_7, .string a2_8]] (by rfl) rfl rfl (by (try simp only [List.map_toArray, List.map_cons, List.map_nil]); first | done | rfl | (simp only [List.length_drop, List.length_take]; rfl)) ?_
                          with_reducible refine (colonnaderef05_Compare.calls k2 ((rd_T28 l1 x9_2).f0) ((rd_T28 l1 x9_2).f1) ((rd_T28 l1 x9_2).f2) ((rd_T28 l1 x9_2).f3) a2_5 a2_6 a2_7 a2_8 t555 _ A33.out).mono ?_
                          rintro e w37 ⟨rfl, hb⟩
                          refine ⟨_, rfl, ?_⟩
                          have n0_ := blkS BK544 hb
                          have n1_ := blkS BK545 hb
                          have n2_ := Aside0.mk (below_step bel0 hb)
                          clear BK544
                          clear BK545
                          clear HB
                          have BK544 := n0_
                          have BK545 := n1_
                          have HB := n2_
                          clear n0_ n1_ n2_
                          (try clear hb)
                          (try clear hb2)
                          (try clear hk)
                          (try clear hi)
                          refine hK.out _ _ ⟨(blk_cell BK545.out 0).trans rfl, (blk_cell BK545.out 1).trans rfl, (blk_cell BK545.out 2).trans rfl, (blk_cell BK545.out 3).trans rfl, (blk_cell BK545.out 4).trans rfl, (blk_cell BK545.out 5).trans rfl, (blk_cell BK545.out 6).trans rfl, (blk_cell BK545.out 7).trans rfl, (blk_cell BK545.out 8).trans rfl, (blk_cell BK545.out 9).trans rfl, ((HB.out.cell (World.block_lt_of_cell? w _ hw552_0)).trans hw552_0), ((HB.out.cell (World.block_lt_of_cell? w _ hw552_1)).trans hw552_1), ((HB.out.cell (World.block_lt_of_cell? w _ hw552_2)).trans hw552_2), ((HB.out.cell (World.block_lt_of_cell? w _ hw552_3)).trans hw552_3), ((HB.out.cell (World.block_lt_of_cell? w _ hw554_0)).trans hw554_0), ((HB.out.cell (World.block_lt_of_cell? w _ hw554_1)).trans hw554_1), ((HB.out.cell (World.block_lt_of_cell? w _ hw554_2)).trans hw554_2), ((HB.out.cell (World.block_lt_of_cell? w _ hw554_3)).trans hw554_3)⟩ (fun hHeld => ?_)
                          clear hK K
                          refine norm_ (a' := ?_) ?_ ?_
                          rotate_left
                          · show Act.put _ (some 63) _ = _
                            simp only [Act.put, List.setIfInBounds_toArray, List.set_cons_zero, List.set_cons_succ, i64_w, i32_w]
                            rfl
                          refine pureP #[true, true, true, true, true, true, true, true, true, true, true, true, true, true, true, true, true, true, true, true, true, true, false] (any_of HT_.out (by kernel_rfl)) (i := 21) (N := some 64) ?_
                          refine pureP #[true, true, true, true, true, true, true, true, true, true, true, true, true, true, true, true, true, true, true, true, true, true, true] (any_of HT_.out (by kernel_rfl)) (i := 22) (N := some 65) ?_
                          refine done_ (done_of HT_.out (by kernel_rfl)) ?_
                          try go_wp2
                          go_meet
                          case rel => exact ⟨_, (decide (t555 > 0)), (by first | rfl | (simp; done) | (simp [*]; done)), H', ⟨by have := HJ4.out; have := HK2.out; first | omega | exact Nat.le_refl _⟩, ⟨by (with_reducible repeat (first | refine blk_drewN ?_ _ | refine blk_drew ?_ | refine blk_alloc ?_ _)); exact BK544.out⟩, ⟨by (with_reducible repeat (first | refine blk_drewN ?_ _ | refine blk_drew ?_ | refine blk_alloc ?_ _)); exact BK545.out⟩, ⟨bel0⟩⟩
                    case rest =>
                      clear HC21
                      try clear c2
                      try clear p2
                      try clear c4
                      try clear c5
                      try clear p5
                      try clear q5
                      try clear hx5
                      try clear c25
                      try clear c29
                      try clear c29b0
                      try clear hx552_0
                      try clear hx552_1
                      try clear hx552_2
                      try clear hx552_3
                      try clear hx554_0
                      try clear hx554_1
                      try clear hx554_2
                      try clear hx554_3
                      try clear p552
                      try clear p554
                      try clear q552
                      try clear q554
                      obtain ⟨kq, x65_20, rfl, HA, HJ20, BK544, BK545, HB⟩ := hcut
                      cases kq with
                      | zero => exact absurd HA.out (by simp [colonnaderef14_Sound.j2])
                      | succ kj20 =>
                        have H := HA.out
                        clear HA
                        simp only [colonnaderef14_Sound.j2] at H
                        by_cases c38 : x65_20 = true
                        · subst c38
                          rw [if_pos rfl] at H
                          obtain rfl := Option.some.inj H
                          go_wp2
                          go_ret
                          exact ⟨by first | rfl | (simp [errW_none, errW_some] <;> rfl) | (simp [*, errW_none, errW_some] <;> rfl), bel0⟩
                        · replace c38 := Bool.eq_false_iff.mpr c38
                          subst c38
                          rw [if_neg (show ¬ (false = true) by decide)] at H
                          by_cases c39 : (l2_9.length : Int) > 0
                          · rw [if_pos c39] at H
                            have c39b0 : decide (0 < (l2_9.length : Int)) = true := decide_eq_true c39
                            have c39b1 : decide (0 < l2_9.length) = true := decide_eq_true (by omega)
                            clear c39
                            by_cases c40 : 0 ≤ x9_2
                            · rw [if_pos c40] at H
                              have c40b0 : decide (0 ≤ x9_2) = true := decide_eq_true c40
                              clear c40
                              by_cases c41 : x9_2 < (l1.length : Int)
                              · rw [if_pos c41] at H
                                have c41b0 : decide (x9_2 < (l1.length : Int)) = true := decide_eq_true c41
                                clear c41
                                replace H := Option.bind_eq_some_iff.mp H
                                obtain ⟨t557, A420, H⟩ := H
                                (try dsimp only at H)
                                have A42 := Aside0.mk A420
                                clear A420
                                by_cases c43 : t557 = true
                                · subst c43
                                  rw [if_pos rfl] at H
                                  have H' := Aside0.mk H
                                  clear H
                                  try go_wp2
                                  have n0_ := Aside0.mk (blk_drew BK544.out)
                                  have n1_ := Aside0.mk (blk_drew BK545.out)
                                  have n2_ := Aside0.mk (below_drew1 HB.out)
                                  clear BK544
                                  clear BK545
                                  clear HB
                                  have BK544 := n0_
                                  have BK545 := n1_
                                  have HB := n2_
                                  clear n0_ n1_ n2_
                                  have p556 : 0 ≤ (x9_2 : Int) := of_decide_eq_true (by first | (with_reducible assumption) | assumption)
                                  have q556 : x9_2 < (l1.length : Int) := of_decide_eq_true (by first | (with_reducible assumption) | assumption)
                                  obtain ⟨ad556, e556, hx556_0, hx556_1, hx556_2, hx556_3⟩ := at_T28 HR1.out x9_2 p556 q556
                                  have hw556_3 := hx556_3
                                  have hw556_2 := hx556_2
                                  have hw556_1 := hx556_1
                                  have hw556_0 := hx556_0
                                  obtain rfl : ad548 = ad556 := (by injection e556)
                                  replace hx556_0 := (HB.out.cell (World.block_lt_of_cell? w _ hx556_0)).trans hx556_0
                                  replace hx556_1 := (HB.out.cell (World.block_lt_of_cell? w _ hx556_1)).trans hx556_1
                                  replace hx556_2 := (HB.out.cell (World.block_lt_of_cell? w _ hx556_2)).trans hx556_2
                                  replace hx556_3 := (HB.out.cell (World.block_lt_of_cell? w _ hx556_3)).trans hx556_3
                                  replace p556 := eq_true p556
                                  replace q556 := eq_true q556
                                  refine start_ (n := 14) (S := fun w' => w'.cell? ⟨gb545, 0, none⟩ = some (.int .i64 a2_0) ∧ w'.cell? ⟨gb545, 1, none⟩ = some (.int .i64 a2_1) ∧ w'.cell? ⟨gb545, 2, none⟩ = some (.int .i64 a2_2) ∧ w'.cell? ⟨gb545, 3, none⟩ = some (.float .f64 a2_3) ∧ w'.cell? ⟨gb545, 4, none⟩ = some (.string a2_4) ∧ w'.cell? ⟨gb545, 5, none⟩ = some (.int .i64 a2_5) ∧ w'.cell? ⟨gb545, 6, none⟩ = some (.int .i64 a2_6) ∧ w'.cell? ⟨gb545, 7, none⟩ = some (.float .f64 a2_7) ∧ w'.cell? ⟨gb545, 8, none⟩ = some (.string a2_8) ∧ w'.cell? ⟨gb545, 9, none⟩ = some (.slice A2_9 l2_9.length c2_9) ∧ w'.cell? (ad548.add ((x9_2).toNat * 4)) = some (.int .i64 ((rd_T28 l1 x9_2).f0)) ∧ w'.cell? ⟨(ad548.add ((x9_2).toNat * 4)).block, (ad548.add ((x9_2).toNat * 4)).off + 1, none⟩ = some (.int .i64 ((rd_T28 l1 x9_2).f1)) ∧ w'.cell? ⟨(ad548.add ((x9_2).toNat * 4)).block, (ad548.add ((x9_2).toNat * 4)).off + 2, none⟩ = some (.float .f64 ((rd_T28 l1 x9_2).f2)) ∧ w'.cell? ⟨(ad548.add ((x9_2).toNat * 4)).block, (ad548.add ((x9_2).toNat * 4)).off + 3, none⟩ = some (.string ((rd_T28 l1 x9_2).f3))) (ds := []) #[false, false, false, false, false, false, false, false, false, false, false, false, false, false] (by kernel_rfl) rfl rfl ⟨(blk_cell BK545.out 0).trans rfl, (blk_cell BK545.out 1).trans rfl, (blk_cell BK545.out 2).trans rfl, (blk_cell BK545.out 3).trans rfl, (blk_cell BK545.out 4).trans rfl, (blk_cell BK545.out 5).trans rfl, (blk_cell BK545.out 6).trans rfl, (blk_cell BK545.out 7).trans rfl, (blk_cell BK545.out 8).trans rfl, (blk_cell BK545.out 9).trans rfl, ((HB.out.cell (World.block_lt_of_cell? w _ hw556_0)).trans hw556_0), ((HB.out.cell (World.block_lt_of_cell? w _ hw556_1)).trans hw556_1), ((HB.out.cell (World.block_lt_of_cell? w _ hw556_2)).trans hw556_2), ((HB.out.cell (World.block_lt_of_cell? w _ hw556_3)).trans hw556_3)⟩ (fun hHeld => ?_); refine with_tabW colonnaderef14_Sound.tab15 colonnaderef14_Sound.bits15 (fun HT_ HW_ => ?_)
                                  generalize wc.drew = w44 at BK544 BK545 HB hx556_0 hx556_1 hx556_2 hx556_3 hHeld ⊢
                                  refine pureP #[true, false, false, false, false, false, false, false, false, false, false, false, false, false] (any_of HT_.out (by kernel_rfl)) (i := 0) (N := some 66) ?_
                                  refine takeP #[true, true, false, false, false, false, false, false, false, false, false, false, false, false] (take_ofW HT_.out HW_.out (by kernel_rfl)) hHeld (i := 1) (N := some 67) ?_
                                  refine pureP #[true, true, true, false, false, false, false, false, false, false, false, false, false, false] (any_of HT_.out (by kernel_rfl)) (i := 2) (N := some 68) ?_
                                  refine pureP #[true, true, true, true, false, false, false, false, false, false, false, false, false, false] (any_of HT_.out (by kernel_rfl)) (i := 3) (N := some 69) ?_
                                  refine pureP #[true, true, true, true, true, false, false, false, false, false, false, false, false, false] (any_of HT_.out (by kernel_rfl)) (i := 4) (N := some 70) ?_
                                  refine pureP #[true, true, true, true, true, true, false, false, false, false, false, false, false, false] (any_of HT_.out (by kernel_rfl)) (i := 5) (N := some 71) ?_
                                  refine pureP #[true, true, true, true, true, true, false, true, false, false, false, false, false, false] (any_of HT_.out (by kernel_rfl)) (i := 7) (N := some 73) ?_
                                  refine pureP #[true, true, true, true, true, true, false, true, true, false, false, false, false, false] (any_of HT_.out (by kernel_rfl)) (i := 8) (N := some 74) ?_
                                  refine pureP #[true, true, true, true, true, true, false, true, true, true, false, false, false, false] (any_of HT_.out (by kernel_rfl)) (i := 9) (N := some 75) ?_
                                  refine takeP #[true, true, true, true, true, true, true, true, true, true, false, false, false, false] (take_ofW HT_.out HW_.out (by kernel_rfl)) hHeld (i := 6) (N := some 72) ?_
                                  refine takeP #[true, true, true, true, true, true, true, true, true, true, true, false, false, false] (take_ofW HT_.out HW_.out (by kernel_rfl)) hHeld (i := 10) (N := some 76) ?_
                                  refine one_ (i := 11) (N := some 77) #[true, true, true, true, true, true, true, true, true, true, true, true, false, false] rfl rfl (one_of HT_.out (by kernel_rfl)) (by decide) (fun K hK => ?_)
                                  refine goes_ Try.func66 (by kernel_rfl) rfl #[.slice A2_9 l2_9.length c2_9, .agg #[.int .i64 ((rd_T28 l1 x9_2).f0), .int .i64 ((rd_T28 l1 x9_2).f1), .float .f64 ((rd_T28 l1 x9_2).f2), .string ((rd_T28 l1 x9_2).f3)]] (by rfl) rfl rfl (by (try simp only [List.map_toArray, List.map_cons, List.map_nil]); first | done | rfl | (simp only [List.length_drop, List.length_take]; rfl)) ?_
                                  with_reducible refine (colonnaderef13_Has.calls kj20 _ _ l2_9 ((rd_T28 l1 x9_2).f0) ((rd_T28 l1 x9_2).f1) ((rd_T28 l1 x9_2).f2) ((rd_T28 l1 x9_2).f3) true _ ?side1 ?side2 A42.out).mono ?_
                                  (case side1 => repeat (first | exact (Kd.C_below HR2_9.out HB.out) | (with_reducible refine Kd.C_alloc ?_ _) | (with_reducible refine Kd.C_drewN ?_ _) | (with_reducible refine Kd.C_drew ?_)))
                                  (case side2 => exact HC2_9.out)
                                  rintro e w45 ⟨rfl, hb⟩
                                  refine ⟨_, rfl, ?_⟩
                                  have n0_ := blkS BK544 hb
                                  have n1_ := blkS BK545 hb
                                  have n2_ := Aside0.mk (below_step bel0 hb)
                                  clear BK544
                                  clear BK545
                                  clear HB
                                  have BK544 := n0_
                                  have BK545 := n1_
                                  have HB := n2_
                                  clear n0_ n1_ n2_
                                  (try clear hb)
                                  (try clear hb2)
                                  (try clear hk)
                                  (try clear hi)
                                  refine hK.out _ _ ⟨(blk_cell BK545.out 0).trans rfl, (blk_cell BK545.out 1).trans rfl, (blk_cell BK545.out 2).trans rfl, (blk_cell BK545.out 3).trans rfl, (blk_cell BK545.out 4).trans rfl, (blk_cell BK545.out 5).trans rfl, (blk_cell BK545.out 6).trans rfl, (blk_cell BK545.out 7).trans rfl, (blk_cell BK545.out 8).trans rfl, (blk_cell BK545.out 9).trans rfl, ((HB.out.cell (World.block_lt_of_cell? w _ hw556_0)).trans hw556_0), ((HB.out.cell (World.block_lt_of_cell? w _ hw556_1)).trans hw556_1), ((HB.out.cell (World.block_lt_of_cell? w _ hw556_2)).trans hw556_2), ((HB.out.cell (World.block_lt_of_cell? w _ hw556_3)).trans hw556_3)⟩ (fun hHeld => ?_)
                                  clear hK K
                                  refine norm_ (a' := ?_) ?_ ?_
                                  rotate_left
                                  · show Act.put _ (some 77) _ = _
                                    simp only [Act.put, List.setIfInBounds_toArray, List.set_cons_zero, List.set_cons_succ, i64_w, i32_w]
                                    rfl
                                  refine pureP #[true, true, true, true, true, true, true, true, true, true, true, true, true, false] (any_of HT_.out (by kernel_rfl)) (i := 12) (N := some 78) ?_
                                  refine pureP #[true, true, true, true, true, true, true, true, true, true, true, true, true, true] (any_of HT_.out (by kernel_rfl)) (i := 13) (N := some 79) ?_
                                  refine done_ (done_of HT_.out (by kernel_rfl)) ?_
                                  try go_wp2
                                  go_roundg kj20
                                  case measure => have := HJ4.out; have := HK2.out; have := HJ20.out; omega
                                  case rel => exact ⟨(x8_2), (wrap64 (x9_2 + 1)), (by first | rfl | (simp; done) | (simp [*]; done)), (by first | rfl | (simp; done) | (simp [*]; done)), H', ⟨by have := HJ4.out; have := HK2.out; have := HJ20.out; omega⟩, ⟨by (with_reducible repeat (first | refine blk_drewN ?_ _ | refine blk_drew ?_ | refine blk_alloc ?_ _)); exact BK544.out⟩, ⟨by (with_reducible repeat (first | refine blk_drewN ?_ _ | refine blk_drew ?_ | refine blk_alloc ?_ _)); exact BK545.out⟩, ⟨bel0⟩⟩
                                · replace c43 := Bool.eq_false_iff.mpr c43
                                  subst c43
                                  rw [if_neg (show ¬ (false = true) by decide)] at H
                                  obtain rfl := Option.some.inj H
                                  try go_wp2
                                  have n0_ := Aside0.mk (blk_drew BK544.out)
                                  have n1_ := Aside0.mk (blk_drew BK545.out)
                                  have n2_ := Aside0.mk (below_drew1 HB.out)
                                  clear BK544
                                  clear BK545
                                  clear HB
                                  have BK544 := n0_
                                  have BK545 := n1_
                                  have HB := n2_
                                  clear n0_ n1_ n2_
                                  have p556 : 0 ≤ (x9_2 : Int) := of_decide_eq_true (by first | (with_reducible assumption) | assumption)
                                  have q556 : x9_2 < (l1.length : Int) := of_decide_eq_true (by first | (with_reducible assumption) | assumption)
                                  obtain ⟨ad556, e556, hx556_0, hx556_1, hx556_2, hx556_3⟩ := at_T28 HR1.out x9_2 p556 q556
                                  have hw556_3 := hx556_3
                                  have hw556_2 := hx556_2
                                  have hw556_1 := hx556_1
                                  have hw556_0 := hx556_0
                                  obtain rfl : ad548 = ad556 := (by injection e556)
                                  replace hx556_0 := (HB.out.cell (World.block_lt_of_cell? w _ hx556_0)).trans hx556_0
                                  replace hx556_1 := (HB.out.cell (World.block_lt_of_cell? w _ hx556_1)).trans hx556_1
                                  replace hx556_2 := (HB.out.cell (World.block_lt_of_cell? w _ hx556_2)).trans hx556_2
                                  replace hx556_3 := (HB.out.cell (World.block_lt_of_cell? w _ hx556_3)).trans hx556_3
                                  replace p556 := eq_true p556
                                  replace q556 := eq_true q556
                                  refine start_ (n := 14) (S := fun w' => w'.cell? ⟨gb545, 0, none⟩ = some (.int .i64 a2_0) ∧ w'.cell? ⟨gb545, 1, none⟩ = some (.int .i64 a2_1) ∧ w'.cell? ⟨gb545, 2, none⟩ = some (.int .i64 a2_2) ∧ w'.cell? ⟨gb545, 3, none⟩ = some (.float .f64 a2_3) ∧ w'.cell? ⟨gb545, 4, none⟩ = some (.string a2_4) ∧ w'.cell? ⟨gb545, 5, none⟩ = some (.int .i64 a2_5) ∧ w'.cell? ⟨gb545, 6, none⟩ = some (.int .i64 a2_6) ∧ w'.cell? ⟨gb545, 7, none⟩ = some (.float .f64 a2_7) ∧ w'.cell? ⟨gb545, 8, none⟩ = some (.string a2_8) ∧ w'.cell? ⟨gb545, 9, none⟩ = some (.slice A2_9 l2_9.length c2_9) ∧ w'.cell? (ad548.add ((x9_2).toNat * 4)) = some (.int .i64 ((rd_T28 l1 x9_2).f0)) ∧ w'.cell? ⟨(ad548.add ((x9_2).toNat * 4)).block, (ad548.add ((x9_2).toNat * 4)).off + 1, none⟩ = some (.int .i64 ((rd_T28 l1 x9_2).f1)) ∧ w'.cell? ⟨(ad548.add ((x9_2).toNat * 4)).block, (ad548.add ((x9_2).toNat * 4)).off + 2, none⟩ = some (.float .f64 ((rd_T28 l1 x9_2).f2)) ∧ w'.cell? ⟨(ad548.add ((x9_2).toNat * 4)).block, (ad548.add ((x9_2).toNat * 4)).off + 3, none⟩ = some (.string ((rd_T28 l1 x9_2).f3))) (ds := []) #[false, false, false, false, false, false, false, false, false, false, false, false, false, false] (by kernel_rfl) rfl rfl ⟨(blk_cell BK545.out 0).trans rfl, (blk_cell BK545.out 1).trans rfl, (blk_cell BK545.out 2).trans rfl, (blk_cell BK545.out 3).trans rfl, (blk_cell BK545.out 4).trans rfl, (blk_cell BK545.out 5).trans rfl, (blk_cell BK545.out 6).trans rfl, (blk_cell BK545.out 7).trans rfl, (blk_cell BK545.out 8).trans rfl, (blk_cell BK545.out 9).trans rfl, ((HB.out.cell (World.block_lt_of_cell? w _ hw556_0)).trans hw556_0), ((HB.out.cell (World.block_lt_of_cell? w _ hw556_1)).trans hw556_1), ((HB.out.cell (World.block_lt_of_cell? w _ hw556_2)).trans hw556_2), ((HB.out.cell (World.block_lt_of_cell? w _ hw556_3)).trans hw556_3)⟩ (fun hHeld => ?_); refine with_tabW colonnaderef14_Sound.tab15 colonnaderef14_Sound.bits15 (fun HT_ HW_ => ?_)
                                  generalize wc.drew = w46 at BK544 BK545 HB hx556_0 hx556_1 hx556_2 hx556_3 hHeld ⊢
                                  refine pureP #[true, false, false, false, false, false, false, false, false, false, false, false, false, false] (any_of HT_.out (by kernel_rfl)) (i := 0) (N := some 66) ?_
                                  refine takeP #[true, true, false, false, false, false, false, false, false, false, false, false, false, false] (take_ofW HT_.out HW_.out (by kernel_rfl)) hHeld (i := 1) (N := some 67) ?_
                                  refine pureP #[true, true, true, false, false, false, false, false, false, false, false, false, false, false] (any_of HT_.out (by kernel_rfl)) (i := 2) (N := some 68) ?_
                                  refine pureP #[true, true, true, true, false, false, false, false, false, false, false, false, false, false] (any_of HT_.out (by kernel_rfl)) (i := 3) (N := some 69) ?_
                                  refine pureP #[true, true, true, true, true, false, false, false, false, false, false, false, false, false] (any_of HT_.out (by kernel_rfl)) (i := 4) (N := some 70) ?_
                                  refine pureP #[true, true, true, true, true, true, false, false, false, false, false, false, false, false] (any_of HT_.out (by kernel_rfl)) (i := 5) (N := some 71) ?_
                                  refine pureP #[true, true, true, true, true, true, false, true, false, false, false, false, false, false] (any_of HT_.out (by kernel_rfl)) (i := 7) (N := some 73) ?_
                                  refine pureP #[true, true, true, true, true, true, false, true, true, false, false, false, false, false] (any_of HT_.out (by kernel_rfl)) (i := 8) (N := some 74) ?_
                                  refine pureP #[true, true, true, true, true, true, false, true, true, true, false, false, false, false] (any_of HT_.out (by kernel_rfl)) (i := 9) (N := some 75) ?_
                                  refine takeP #[true, true, true, true, true, true, true, true, true, true, false, false, false, false] (take_ofW HT_.out HW_.out (by kernel_rfl)) hHeld (i := 6) (N := some 72) ?_
                                  refine takeP #[true, true, true, true, true, true, true, true, true, true, true, false, false, false] (take_ofW HT_.out HW_.out (by kernel_rfl)) hHeld (i := 10) (N := some 76) ?_
                                  refine one_ (i := 11) (N := some 77) #[true, true, true, true, true, true, true, true, true, true, true, true, false, false] rfl rfl (one_of HT_.out (by kernel_rfl)) (by decide) (fun K hK => ?_)
                                  refine goes_ Try.func66 (by kernel_rfl) rfl #[.slice A2_9 l2_9.length c2_9, .agg #[.int .i64 ((rd_T28 l1 x9_2).f0), .int .i64 ((rd_T28 l1 x9_2).f1), .float .f64 ((rd_T28 l1 x9_2).f2), .string ((rd_T28 l1 x9_2).f3)]] (by rfl) rfl rfl (by (try simp only [List.map_toArray, List.map_cons, List.map_nil]); first | done | rfl | (simp only [List.length_drop, List.length_take]; rfl)) ?_
                                  with_reducible refine (colonnaderef13_Has.calls kj20 _ _ l2_9 ((rd_T28 l1 x9_2).f0) ((rd_T28 l1 x9_2).f1) ((rd_T28 l1 x9_2).f2) ((rd_T28 l1 x9_2).f3) false _ ?side1 ?side2 A42.out).mono ?_
                                  (case side1 => repeat (first | exact (Kd.C_below HR2_9.out HB.out) | (with_reducible refine Kd.C_alloc ?_ _) | (with_reducible refine Kd.C_drewN ?_ _) | (with_reducible refine Kd.C_drew ?_)))
                                  (case side2 => exact HC2_9.out)
                                  rintro e w47 ⟨rfl, hb⟩
                                  refine ⟨_, rfl, ?_⟩
                                  have n0_ := blkS BK544 hb
                                  have n1_ := blkS BK545 hb
                                  have n2_ := Aside0.mk (below_step bel0 hb)
                                  clear BK544
                                  clear BK545
                                  clear HB
                                  have BK544 := n0_
                                  have BK545 := n1_
                                  have HB := n2_
                                  clear n0_ n1_ n2_
                                  (try clear hb)
                                  (try clear hb2)
                                  (try clear hk)
                                  (try clear hi)
                                  refine hK.out _ _ ⟨(blk_cell BK545.out 0).trans rfl, (blk_cell BK545.out 1).trans rfl, (blk_cell BK545.out 2).trans rfl, (blk_cell BK545.out 3).trans rfl, (blk_cell BK545.out 4).trans rfl, (blk_cell BK545.out 5).trans rfl, (blk_cell BK545.out 6).trans rfl, (blk_cell BK545.out 7).trans rfl, (blk_cell BK545.out 8).trans rfl, (blk_cell BK545.out 9).trans rfl, ((HB.out.cell (World.block_lt_of_cell? w _ hw556_0)).trans hw556_0), ((HB.out.cell (World.block_lt_of_cell? w _ hw556_1)).trans hw556_1), ((HB.out.cell (World.block_lt_of_cell? w _ hw556_2)).trans hw556_2), ((HB.out.cell (World.block_lt_of_cell? w _ hw556_3)).trans hw556_3)⟩ (fun hHeld => ?_)
                                  clear hK K
                                  refine norm_ (a' := ?_) ?_ ?_
                                  rotate_left
                                  · show Act.put _ (some 77) _ = _
                                    simp only [Act.put, List.setIfInBounds_toArray, List.set_cons_zero, List.set_cons_succ, i64_w, i32_w]
                                    rfl
                                  refine pureP #[true, true, true, true, true, true, true, true, true, true, true, true, true, false] (any_of HT_.out (by kernel_rfl)) (i := 12) (N := some 78) ?_
                                  refine pureP #[true, true, true, true, true, true, true, true, true, true, true, true, true, true] (any_of HT_.out (by kernel_rfl)) (i := 13) (N := some 79) ?_
                                  refine done_ (done_of HT_.out (by kernel_rfl)) ?_
                                  try go_wp2
                                  go_ret
                                  exact ⟨by first | rfl | (simp [errW_none, errW_some] <;> rfl) | (simp [*, errW_none, errW_some] <;> rfl), bel0⟩
                              · rw [if_neg c41] at H
                                exact absurd H (by simp)
                            · rw [if_neg c40] at H
                              exact absurd H (by simp)
                          · rw [if_neg c39] at H
                            have c39b0 : decide (0 < (l2_9.length : Int)) = false := decide_eq_false c39
                            have c39b1 : decide (0 < l2_9.length) = false := decide_eq_false (by omega)
                            clear c39
                            have H' := Aside0.mk H
                            clear H
                            try go_wp2
                            have n0_ := Aside0.mk (blk_drew BK544.out)
                            have n1_ := Aside0.mk (blk_drew BK545.out)
                            have n2_ := Aside0.mk (below_drew1 HB.out)
                            clear BK544
                            clear BK545
                            clear HB
                            have BK544 := n0_
                            have BK545 := n1_
                            have HB := n2_
                            clear n0_ n1_ n2_
                            refine start_ (n := 14) (S := fun w' => w'.cell? ⟨gb545, 0, none⟩ = some (.int .i64 a2_0) ∧ w'.cell? ⟨gb545, 1, none⟩ = some (.int .i64 a2_1) ∧ w'.cell? ⟨gb545, 2, none⟩ = some (.int .i64 a2_2) ∧ w'.cell? ⟨gb545, 3, none⟩ = some (.float .f64 a2_3) ∧ w'.cell? ⟨gb545, 4, none⟩ = some (.string a2_4) ∧ w'.cell? ⟨gb545, 5, none⟩ = some (.int .i64 a2_5) ∧ w'.cell? ⟨gb545, 6, none⟩ = some (.int .i64 a2_6) ∧ w'.cell? ⟨gb545, 7, none⟩ = some (.float .f64 a2_7) ∧ w'.cell? ⟨gb545, 8, none⟩ = some (.string a2_8) ∧ w'.cell? ⟨gb545, 9, none⟩ = some (.slice A2_9 l2_9.length c2_9)) (ds := []) #[false, false, false, false, false, false, false, false, false, false, false, false, false, false] (by kernel_rfl) rfl rfl ⟨(blk_cell BK545.out 0).trans rfl, (blk_cell BK545.out 1).trans rfl, (blk_cell BK545.out 2).trans rfl, (blk_cell BK545.out 3).trans rfl, (blk_cell BK545.out 4).trans rfl, (blk_cell BK545.out 5).trans rfl, (blk_cell BK545.out 6).trans rfl, (blk_cell BK545.out 7).trans rfl, (blk_cell BK545.out 8).trans rfl, (blk_cell BK545.out 9).trans rfl⟩ (fun hHeld => ?_); refine with_tabW colonnaderef14_Sound.tab15 colonnaderef14_Sound.bits15 (fun HT_ HW_ => ?_)
                            generalize wc.drew = w48 at BK544 BK545 HB hHeld ⊢
                            refine pureP #[true, false, false, false, false, false, false, false, false, false, false, false, false, false] (any_of HT_.out (by kernel_rfl)) (i := 0) (N := some 66) ?_
                            refine takeP #[true, true, false, false, false, false, false, false, false, false, false, false, false, false] (take_ofW HT_.out HW_.out (by kernel_rfl)) hHeld (i := 1) (N := some 67) ?_
                            refine pureP #[true, true, true, false, false, false, false, false, false, false, false, false, false, false] (any_of HT_.out (by kernel_rfl)) (i := 2) (N := some 68) ?_
                            refine pureP #[true, true, true, true, false, false, false, false, false, false, false, false, false, false] (any_of HT_.out (by kernel_rfl)) (i := 3) (N := some 69) ?_
                            refine pureP #[true, true, true, true, true, false, false, false, false, false, false, false, false, false] (any_of HT_.out (by kernel_rfl)) (i := 4) (N := some 70) ?_
                            refine pureO #[true, true, true, true, true, true, false, false, false, false, false, false, false, false] (any_of HT_.out (by kernel_rfl)) (i := 5) (N := some 71) ?_
                            refine pureO #[true, true, true, true, true, true, true, false, false, false, false, false, false, false] (any_of HT_.out (by kernel_rfl)) (i := 6) (N := some 72) ?_
                            refine pureO #[true, true, true, true, true, true, true, true, false, false, false, false, false, false] (any_of HT_.out (by kernel_rfl)) (i := 7) (N := some 73) ?_
                            refine pureO #[true, true, true, true, true, true, true, true, true, false, false, false, false, false] (any_of HT_.out (by kernel_rfl)) (i := 8) (N := some 74) ?_
                            refine pureO #[true, true, true, true, true, true, true, true, true, true, false, false, false, false] (any_of HT_.out (by kernel_rfl)) (i := 9) (N := some 75) ?_
                            refine pureO #[true, true, true, true, true, true, true, true, true, true, true, false, false, false] (any_of HT_.out (by kernel_rfl)) (i := 10) (N := some 76) ?_
                            refine pureO #[true, true, true, true, true, true, true, true, true, true, true, true, false, false] (any_of HT_.out (by kernel_rfl)) (i := 11) (N := some 77) ?_
                            refine pureO #[true, true, true, true, true, true, true, true, true, true, true, true, true, false] (any_of HT_.out (by kernel_rfl)) (i := 12) (N := some 78) ?_
                            refine pureP #[true, true, true, true, true, true, true, true, true, true, true, true, true, true] (any_of HT_.out (by kernel_rfl)) (i := 13) (N := some 79) ?_
                            refine done_ (done_of HT_.out (by kernel_rfl)) ?_
                            try go_wp2
                            go_roundg kj20
                            case measure => have := HJ4.out; have := HK2.out; have := HJ20.out; omega
                            case rel => exact ⟨(x8_2), (wrap64 (x9_2 + 1)), (by first | rfl | (simp; done) | (simp [*]; done)), (by first | rfl | (simp; done) | (simp [*]; done)), H', ⟨by have := HJ4.out; have := HK2.out; have := HJ20.out; omega⟩, ⟨by (with_reducible repeat (first | refine blk_drewN ?_ _ | refine blk_drew ?_ | refine blk_alloc ?_ _)); exact BK544.out⟩, ⟨by (with_reducible repeat (first | refine blk_drewN ?_ _ | refine blk_drew ?_ | refine blk_alloc ?_ _)); exact BK545.out⟩, ⟨bel0⟩⟩
                · replace c17 := Bool.eq_false_iff.mpr c17
                  subst c17
                  rw [if_neg (show ¬ (false = true) by decide)] at H
                  obtain rfl := Option.some.inj H
                  try go_wp2
                  have n0_ := Aside0.mk (blk_drew BK544.out)
                  have n1_ := Aside0.mk (blk_drew BK545.out)
                  have n2_ := Aside0.mk (below_drew1 HB.out)
                  clear BK544
                  clear BK545
                  clear HB
                  have BK544 := n0_
                  have BK545 := n1_
                  have HB := n2_
                  clear n0_ n1_ n2_
                  have p548 : 0 ≤ (x9_2 : Int) := of_decide_eq_true (by first | (with_reducible assumption) | assumption)
                  have q548 : x9_2 < (l1.length : Int) := of_decide_eq_true (by first | (with_reducible assumption) | assumption)
                  obtain ⟨ad548, e548, hx548_0, hx548_1, hx548_2, hx548_3⟩ := at_T28 HR1.out x9_2 p548 q548
                  have hw548_3 := hx548_3
                  have hw548_2 := hx548_2
                  have hw548_1 := hx548_1
                  have hw548_0 := hx548_0
                  cases e548
                  replace hx548_0 := (HB.out.cell (World.block_lt_of_cell? w _ hx548_0)).trans hx548_0
                  replace hx548_1 := (HB.out.cell (World.block_lt_of_cell? w _ hx548_1)).trans hx548_1
                  replace hx548_2 := (HB.out.cell (World.block_lt_of_cell? w _ hx548_2)).trans hx548_2
                  replace hx548_3 := (HB.out.cell (World.block_lt_of_cell? w _ hx548_3)).trans hx548_3
                  replace p548 := eq_true p548
                  replace q548 := eq_true q548
                  refine start_ (n := 7) (S := fun w' => w'.cell? ⟨gb544, 0, none⟩ = some (.string a0_0) ∧ w'.cell? ⟨gb544, 1, none⟩ = some (.int .i64 a0_1) ∧ w'.cell? ⟨gb544, 2, none⟩ = some (.bool a0_2) ∧ w'.cell? (ad548.add ((x9_2).toNat * 4)) = some (.int .i64 ((rd_T28 l1 x9_2).f0)) ∧ w'.cell? ⟨(ad548.add ((x9_2).toNat * 4)).block, (ad548.add ((x9_2).toNat * 4)).off + 1, none⟩ = some (.int .i64 ((rd_T28 l1 x9_2).f1)) ∧ w'.cell? ⟨(ad548.add ((x9_2).toNat * 4)).block, (ad548.add ((x9_2).toNat * 4)).off + 2, none⟩ = some (.float .f64 ((rd_T28 l1 x9_2).f2)) ∧ w'.cell? ⟨(ad548.add ((x9_2).toNat * 4)).block, (ad548.add ((x9_2).toNat * 4)).off + 3, none⟩ = some (.string ((rd_T28 l1 x9_2).f3))) (ds := []) #[false, false, false, false, false, false, false] (by kernel_rfl) rfl rfl ⟨(blk_cell BK544.out 0).trans rfl, (blk_cell BK544.out 1).trans rfl, (blk_cell BK544.out 2).trans rfl, ((HB.out.cell (World.block_lt_of_cell? w _ hw548_0)).trans hw548_0), ((HB.out.cell (World.block_lt_of_cell? w _ hw548_1)).trans hw548_1), ((HB.out.cell (World.block_lt_of_cell? w _ hw548_2)).trans hw548_2), ((HB.out.cell (World.block_lt_of_cell? w _ hw548_3)).trans hw548_3)⟩ (fun hHeld => ?_)
                  generalize wr.drew = w49 at BK544 BK545 HB hx548_0 hx548_1 hx548_2 hx548_3 hHeld ⊢
                  refine pureP #[false, true, false, false, false, false, false] (by kernel_rfl) (i := 1) (N := some 28) ?_
                  refine pureP #[false, true, true, false, false, false, false] (by kernel_rfl) (i := 2) (N := some 29) ?_
                  refine pureP #[false, true, true, true, false, false, false] (by kernel_rfl) (i := 3) (N := some 30) ?_
                  refine takeP #[true, true, true, true, false, false, false] (by kernel_rfl) hHeld (i := 0) (N := some 27) ?_
                  refine takeP #[true, true, true, true, true, false, false] (by kernel_rfl) hHeld (i := 4) (N := some 31) ?_
                  refine one_ (i := 5) (N := some 32) #[true, true, true, true, true, true, false] rfl rfl (by kernel_rfl) (by decide) (fun K hK => ?_)
                  refine goes_ Try.func45 (by kernel_rfl) rfl #[.agg #[.string a0_0, .int .i64 a0_1, .bool a0_2], .agg #[.int .i64 ((rd_T28 l1 x9_2).f0), .int .i64 ((rd_T28 l1 x9_2).f1), .float .f64 ((rd_T28 l1 x9_2).f2), .string ((rd_T28 l1 x9_2).f3)]] (by rfl) rfl rfl (by (try simp only [List.map_toArray, List.map_cons, List.map_nil]); first | done | rfl | (simp only [List.length_drop, List.length_take]; rfl)) ?_
                  with_reducible refine (colonnaderef05_Fits.calls k2 a0_0 a0_1 a0_2 ((rd_T28 l1 x9_2).f0) ((rd_T28 l1 x9_2).f1) ((rd_T28 l1 x9_2).f2) ((rd_T28 l1 x9_2).f3) false _ A16.out).mono ?_
                  rintro e w50 ⟨rfl, hb⟩
                  refine ⟨_, rfl, ?_⟩
                  have n0_ := blkS BK544 hb
                  have n1_ := blkS BK545 hb
                  have n2_ := Aside0.mk (below_step bel0 hb)
                  clear BK544
                  clear BK545
                  clear HB
                  have BK544 := n0_
                  have BK545 := n1_
                  have HB := n2_
                  clear n0_ n1_ n2_
                  (try clear hb)
                  (try clear hb2)
                  (try clear hk)
                  (try clear hi)
                  refine hK.out _ _ ⟨(blk_cell BK544.out 0).trans rfl, (blk_cell BK544.out 1).trans rfl, (blk_cell BK544.out 2).trans rfl, ((HB.out.cell (World.block_lt_of_cell? w _ hw548_0)).trans hw548_0), ((HB.out.cell (World.block_lt_of_cell? w _ hw548_1)).trans hw548_1), ((HB.out.cell (World.block_lt_of_cell? w _ hw548_2)).trans hw548_2), ((HB.out.cell (World.block_lt_of_cell? w _ hw548_3)).trans hw548_3)⟩ (fun hHeld => ?_)
                  clear hK K
                  refine norm_ (a' := ?_) ?_ ?_
                  rotate_left
                  · show Act.put _ (some 32) _ = _
                    simp only [Act.put, List.setIfInBounds_toArray, List.set_cons_zero, List.set_cons_succ, i64_w, i32_w]
                    rfl
                  refine pureP #[true, true, true, true, true, true, true] (by kernel_rfl) (i := 6) (N := some 10) ?_
                  refine done_ (by kernel_rfl) ?_
                  try go_wp2
                  go_ret
                  exact ⟨by first | rfl | (simp [errW_none, errW_some] <;> rfl) | (simp [*, errW_none, errW_some] <;> rfl), bel0⟩
              · rw [if_neg c15] at H
                exact absurd H (by simp)
            · rw [if_neg c14] at H
              have c14b0 : decide (x9_2 < (l1.length : Int)) = false := decide_eq_false c14
              clear c14
              by_cases c51 : x8_2 = a2_0
              · rw [if_pos c51] at H
                have c51b0 : (x8_2 == a2_0) = true := beq_iff_eq.mpr c51
                have c51b1 : (x8_2 != a2_0) = false := bne_eq_false_iff_eq.mpr c51
                clear c51
                replace H := Option.bind_eq_some_iff.mp H
                obtain ⟨t547, A520, H⟩ := H
                (try dsimp only at H)
                have A52 := Aside0.mk A520
                clear A520
                obtain rfl := Option.some.inj H
                have hnb53 := NB545_544.out
                have hnc53 := NB544_545.out
                obtain ⟨hcz54_0, hcz54_1, hcz54_2, hcz54_3, hcz54_4, hcz54_5, hcz54_6, hcz54_7, hcz54_8, hcz54_9⟩ := cells_10 BK545.out
                obtain ⟨hfz54_0, hfz54_1, hfz54_2, hfz54_3, hfz54_4, hfz54_5, hfz54_6, hfz54_7, hfz54_8, hfz54_9⟩ := froz_10 BK545.out
                go_wp2_with (first | (go_at_call 55; (with_reducible refine (colonnaderef14_empty.calls a2_1 a2_2 a2_3 a2_4 t547 _ A52.out).mono ?_); rintro e w55 ⟨rfl, hb⟩; (try clear A52); have n0_ := blkS BK544 hb; have n1_ := blkS BK545 hb; have n2_ := Aside0.mk (below_step bel0 hb); clear BK544; clear BK545; clear HB; have BK544 := n0_; have BK545 := n1_; have HB := n2_; clear n0_ n1_ n2_; (try clear hb); (try clear hb2); (try clear hk); (try clear hi)))
                go_ret
                exact ⟨by first | rfl | (simp [errW_none, errW_some] <;> rfl) | (simp [*, errW_none, errW_some] <;> rfl), bel0⟩
              · rw [if_neg c51] at H
                have c51b0 : (x8_2 == a2_0) = false := beq_eq_false_iff_ne.mpr c51
                have c51b1 : (x8_2 != a2_0) = true := bne_iff_ne.mpr c51
                obtain rfl := Option.some.inj H
                have hnb56 := NB545_544.out
                have hnc56 := NB544_545.out
                obtain ⟨hcz57_0, hcz57_1, hcz57_2, hcz57_3, hcz57_4, hcz57_5, hcz57_6, hcz57_7, hcz57_8, hcz57_9⟩ := cells_10 BK545.out
                obtain ⟨hfz57_0, hfz57_1, hfz57_2, hfz57_3, hfz57_4, hfz57_5, hfz57_6, hfz57_7, hfz57_8, hfz57_9⟩ := froz_10 BK545.out
                go_wp2
                go_ret
                exact ⟨by first | rfl | (simp [errW_none, errW_some] <;> rfl) | (simp [*, errW_none, errW_some] <;> rfl), bel0⟩

end Go.Proofs.Ythiidgmemoineaa.Pa
