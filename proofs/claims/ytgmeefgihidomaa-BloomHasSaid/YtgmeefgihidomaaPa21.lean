-- Written by xprint.py, a program of this session, over the kit's print. Not trusted: Lean checks it.
import Derived.Test.YtgmeefgihidomaaPa0
import Derived.Test.YtgmeefgihidomaaPa17
import Derived.Test.YtgmeefgihidomaaPa18
import Derived.Test.YtgmeefgihidomaaPa19
import Derived.Test.YtgmeefgihidomaaPa20
import Derived.Test.YtgmeefgihidomaaKept
import Derived.Test.YtgmeefgihidomaaKeptV
import Derived.Test.YtgmeefgihidomaaLent
namespace Go.Proofs.Ytgmeefgihidomaa.Pa
open Go.RowKit Go.Proofs.YtgmeefgihidomaaW.PrintWords Go.Proofs.YtgmeefgihidomaaW.PrintLast Go.Proofs.YtgmeefgihidomaaW.PrintMore
attribute [local go_sem] max2_int min2_int max_two min_two max_three min_three max_four min_four   -- for this text's walks alone
attribute [local go_sem] run_store_float cmp_feq cmp_fne cmp_flt cmp_fle cmp_fgt cmp_fge un_fneg equalIn_feq ext_bits ext_frombits
set_option linter.unusedVariables false
set_option linter.unusedSimpArgs false

/-! ### colonnadelaw13_BloomHas: function 6 -/
mutual
def colonnadelaw13_BloomHas.l0 : Nat → List Int → List (S40) → Int → Option (Bool)
  | 0, _, _, _ => none
  | k + 1, x5, x6, x7 => if x7 < 3 then (if ([] : List Int).length + x5.length < 140737488355328 then ((some (([] : List Int) ++ x5 : List Int)).bind fun y265 => (if ([] : List (S40)).length + x6.length < 3518437208883 then ((some (([] : List (S40)) ++ x6 : List (S40))).bind fun y268 => ((bloom_All.f k x5 x6).bind fun t271 => ((colonnaderef13_All.f k y265 y268).bind fun t272 => (if (t271 != t272) = true then (colonnadelaw13_BloomHas.j1 k x5 x6 x7 y265 y268 true) else ((colonnadelaw13_kept.f x5 y265).bind fun t273 => (if t273 = true then ((colonnadelaw13_keptValues.f k x6 y268).bind fun t274 => (colonnadelaw13_BloomHas.j1 k x5 x6 x7 y265 y268 (!t274))) else (colonnadelaw13_BloomHas.j1 k x5 x6 x7 y265 y268 true))))))) else (none))) else (none)) else (some true)
def colonnadelaw13_BloomHas.j1 : Nat → List Int → List (S40) → Int → List Int → List (S40) → Bool → Option (Bool)
  | 0, _, _, _, _, _, _ => none
  | k + 1, x5, x6, x7, x8, x9, x43 => if x43 = true then (some false) else (colonnadelaw13_BloomHas.l1 k x5 x6 x7 x8 x9 0)
def colonnadelaw13_BloomHas.l1 : Nat → List Int → List (S40) → Int → List Int → List (S40) → Int → Option (Bool)
  | 0, _, _, _, _, _, _ => none
  | k + 1, x5, x6, x7, x8, x9, x10 => if x10 < (x6.length : Int) then (if 0 ≤ x10 then ((bloom_Has.f k x5 ((rd_T40 x6 x10).f0) ((rd_T40 x6 x10).f1) ((rd_T40 x6 x10).f2) ((rd_T40 x6 x10).f3)).bind fun t276 => (if x10 < (x9.length : Int) then ((colonnaderef13_Has.f k x8 ((rd_T40 x9 x10).f0) ((rd_T40 x9 x10).f1) ((rd_T40 x9 x10).f2) ((rd_T40 x9 x10).f3)).bind fun t278 => (if (t276 != t278) = true then (some false) else ((colonnadelaw13_kept.f x5 x8).bind fun t279 => (if t279 = true then (colonnadelaw13_BloomHas.l1 k x5 x6 x7 x8 x9 (wrap64 (x10 + 1))) else (some false))))) else (none))) else (none)) else (colonnadelaw13_BloomHas.l2 k x5 x6 x7 0)
def colonnadelaw13_BloomHas.l2 : Nat → List Int → List (S40) → Int → Int → Option (Bool)
  | 0, _, _, _, _ => none
  | k + 1, x5, x6, x7, x11 => if x11 < (x5.length : Int) then (if 0 ≤ x11 then (colonnadelaw13_BloomHas.l2 k (x5.set (x11 : Int).toNat (((((rd x5 x11) * 2) % 256) + ((x7) % 256)) % 256)) x6 x7 (wrap64 (x11 + 1))) else (none)) else (colonnadelaw13_BloomHas.l3 k x5 x6 x7 0)
def colonnadelaw13_BloomHas.l3 : Nat → List Int → List (S40) → Int → Int → Option (Bool)
  | 0, _, _, _, _ => none
  | k + 1, x5, x6, x7, x12 => if x12 < (x6.length : Int) then (if 0 ≤ x12 then (if ((rd_T40 x6 x12).f0) = 1 then (colonnadelaw13_BloomHas.l3 k x5 (x6.set (x12 : Int).toNat (⟨(rd_T40 x6 x12).f0, wrap64 (((rd_T40 x6 x12).f1) - 1), (rd_T40 x6 x12).f2, (rd_T40 x6 x12).f3⟩ : S40)) x7 (wrap64 (x12 + 1))) else (colonnadelaw13_BloomHas.l3 k x5 x6 x7 (wrap64 (x12 + 1)))) else (none)) else (colonnadelaw13_BloomHas.l0 k x5 x6 (wrap64 (x7 + 1)))
end
def colonnadelaw13_BloomHas.f (k : Nat) (l0 : List Int) (l1 : List (S40)) : Option (Bool) := (colonnadelaw13_lent.f l0).bind fun t259 => ((colonnadelaw13_lentValues.f l1).bind fun t262 => (colonnadelaw13_BloomHas.l0 k t259 t262 0))
theorem colonnadelaw13_BloomHas.mono_l : ∀ k, (∀ y0 y1 y2, LeO (colonnadelaw13_BloomHas.l0 k y0 y1 y2) (colonnadelaw13_BloomHas.l0 (k + 1) y0 y1 y2)) ∧ (∀ y0 y1 y2 y3 y4 y5, LeO (colonnadelaw13_BloomHas.j1 k y0 y1 y2 y3 y4 y5) (colonnadelaw13_BloomHas.j1 (k + 1) y0 y1 y2 y3 y4 y5)) ∧ (∀ y0 y1 y2 y3 y4 y5, LeO (colonnadelaw13_BloomHas.l1 k y0 y1 y2 y3 y4 y5) (colonnadelaw13_BloomHas.l1 (k + 1) y0 y1 y2 y3 y4 y5)) ∧ (∀ y0 y1 y2 y3, LeO (colonnadelaw13_BloomHas.l2 k y0 y1 y2 y3) (colonnadelaw13_BloomHas.l2 (k + 1) y0 y1 y2 y3)) ∧ (∀ y0 y1 y2 y3, LeO (colonnadelaw13_BloomHas.l3 k y0 y1 y2 y3) (colonnadelaw13_BloomHas.l3 (k + 1) y0 y1 y2 y3))
  | 0 => ⟨fun _ _ _ r h => by simp [colonnadelaw13_BloomHas.l0] at h, fun _ _ _ _ _ _ r h => by simp [colonnadelaw13_BloomHas.j1] at h, fun _ _ _ _ _ _ r h => by simp [colonnadelaw13_BloomHas.l1] at h, fun _ _ _ _ r h => by simp [colonnadelaw13_BloomHas.l2] at h, fun _ _ _ _ r h => by simp [colonnadelaw13_BloomHas.l3] at h⟩
  | k + 1 => by
    obtain ⟨ih0, ih1, ih2, ih3, ih4⟩ := colonnadelaw13_BloomHas.mono_l k
    refine ⟨?_, ?_, ?_, ?_, ?_⟩
    · intro y0 y1 y2
      unfold colonnadelaw13_BloomHas.l0
      repeat' first
      | (with_reducible exact ih0 _ _ _)
      | (with_reducible exact ih1 _ _ _ _ _ _)
      | (with_reducible exact ih2 _ _ _ _ _ _)
      | (with_reducible exact ih3 _ _ _ _)
      | (with_reducible exact ih4 _ _ _ _)
      | (with_reducible exact bloom_All.mono _ _ _)
      | (with_reducible exact bloom_Has.mono _ _ _ _ _ _)
      | (with_reducible exact colonnadelaw13_keptValues.mono _ _ _)
      | (with_reducible exact colonnaderef13_All.mono _ _ _)
      | (with_reducible exact colonnaderef13_Has.mono _ _ _ _ _ _)
      | (with_reducible exact LeO.refl _)
      | (with_reducible exact LeO.none _)
      | (with_reducible refine LeO.ite ?_ ?_)
      | (with_reducible refine LeO.bind ?_ (fun _ => ?_))
      | exact ih0 _ _ _
      | exact ih1 _ _ _ _ _ _
      | exact ih2 _ _ _ _ _ _
      | exact ih3 _ _ _ _
      | exact ih4 _ _ _ _
      | exact bloom_All.mono _ _ _
      | exact bloom_Has.mono _ _ _ _ _ _
      | exact colonnadelaw13_keptValues.mono _ _ _
      | exact colonnaderef13_All.mono _ _ _
      | exact colonnaderef13_Has.mono _ _ _ _ _ _
      | exact LeO.none _
      | refine LeO.ite ?_ ?_
      | refine LeO.bind ?_ (fun _ => ?_)
    · intro y0 y1 y2 y3 y4 y5
      unfold colonnadelaw13_BloomHas.j1
      repeat' first
      | (with_reducible exact ih0 _ _ _)
      | (with_reducible exact ih1 _ _ _ _ _ _)
      | (with_reducible exact ih2 _ _ _ _ _ _)
      | (with_reducible exact ih3 _ _ _ _)
      | (with_reducible exact ih4 _ _ _ _)
      | (with_reducible exact bloom_All.mono _ _ _)
      | (with_reducible exact bloom_Has.mono _ _ _ _ _ _)
      | (with_reducible exact colonnadelaw13_keptValues.mono _ _ _)
      | (with_reducible exact colonnaderef13_All.mono _ _ _)
      | (with_reducible exact colonnaderef13_Has.mono _ _ _ _ _ _)
      | (with_reducible exact LeO.refl _)
      | (with_reducible exact LeO.none _)
      | (with_reducible refine LeO.ite ?_ ?_)
      | (with_reducible refine LeO.bind ?_ (fun _ => ?_))
      | exact ih0 _ _ _
      | exact ih1 _ _ _ _ _ _
      | exact ih2 _ _ _ _ _ _
      | exact ih3 _ _ _ _
      | exact ih4 _ _ _ _
      | exact bloom_All.mono _ _ _
      | exact bloom_Has.mono _ _ _ _ _ _
      | exact colonnadelaw13_keptValues.mono _ _ _
      | exact colonnaderef13_All.mono _ _ _
      | exact colonnaderef13_Has.mono _ _ _ _ _ _
      | exact LeO.none _
      | refine LeO.ite ?_ ?_
      | refine LeO.bind ?_ (fun _ => ?_)
    · intro y0 y1 y2 y3 y4 y5
      unfold colonnadelaw13_BloomHas.l1
      repeat' first
      | (with_reducible exact ih0 _ _ _)
      | (with_reducible exact ih1 _ _ _ _ _ _)
      | (with_reducible exact ih2 _ _ _ _ _ _)
      | (with_reducible exact ih3 _ _ _ _)
      | (with_reducible exact ih4 _ _ _ _)
      | (with_reducible exact bloom_All.mono _ _ _)
      | (with_reducible exact bloom_Has.mono _ _ _ _ _ _)
      | (with_reducible exact colonnadelaw13_keptValues.mono _ _ _)
      | (with_reducible exact colonnaderef13_All.mono _ _ _)
      | (with_reducible exact colonnaderef13_Has.mono _ _ _ _ _ _)
      | (with_reducible exact LeO.refl _)
      | (with_reducible exact LeO.none _)
      | (with_reducible refine LeO.ite ?_ ?_)
      | (with_reducible refine LeO.bind ?_ (fun _ => ?_))
      | exact ih0 _ _ _
      | exact ih1 _ _ _ _ _ _
      | exact ih2 _ _ _ _ _ _
      | exact ih3 _ _ _ _
      | exact ih4 _ _ _ _
      | exact bloom_All.mono _ _ _
      | exact bloom_Has.mono _ _ _ _ _ _
      | exact colonnadelaw13_keptValues.mono _ _ _
      | exact colonnaderef13_All.mono _ _ _
      | exact colonnaderef13_Has.mono _ _ _ _ _ _
      | exact LeO.none _
      | refine LeO.ite ?_ ?_
      | refine LeO.bind ?_ (fun _ => ?_)
    · intro y0 y1 y2 y3
      unfold colonnadelaw13_BloomHas.l2
      repeat' first
      | (with_reducible exact ih0 _ _ _)
      | (with_reducible exact ih1 _ _ _ _ _ _)
      | (with_reducible exact ih2 _ _ _ _ _ _)
      | (with_reducible exact ih3 _ _ _ _)
      | (with_reducible exact ih4 _ _ _ _)
      | (with_reducible exact bloom_All.mono _ _ _)
      | (with_reducible exact bloom_Has.mono _ _ _ _ _ _)
      | (with_reducible exact colonnadelaw13_keptValues.mono _ _ _)
      | (with_reducible exact colonnaderef13_All.mono _ _ _)
      | (with_reducible exact colonnaderef13_Has.mono _ _ _ _ _ _)
      | (with_reducible exact LeO.refl _)
      | (with_reducible exact LeO.none _)
      | (with_reducible refine LeO.ite ?_ ?_)
      | (with_reducible refine LeO.bind ?_ (fun _ => ?_))
      | exact ih0 _ _ _
      | exact ih1 _ _ _ _ _ _
      | exact ih2 _ _ _ _ _ _
      | exact ih3 _ _ _ _
      | exact ih4 _ _ _ _
      | exact bloom_All.mono _ _ _
      | exact bloom_Has.mono _ _ _ _ _ _
      | exact colonnadelaw13_keptValues.mono _ _ _
      | exact colonnaderef13_All.mono _ _ _
      | exact colonnaderef13_Has.mono _ _ _ _ _ _
      | exact LeO.none _
      | refine LeO.ite ?_ ?_
      | refine LeO.bind ?_ (fun _ => ?_)
    · intro y0 y1 y2 y3
      unfold colonnadelaw13_BloomHas.l3
      repeat' first
      | (with_reducible exact ih0 _ _ _)
      | (with_reducible exact ih1 _ _ _ _ _ _)
      | (with_reducible exact ih2 _ _ _ _ _ _)
      | (with_reducible exact ih3 _ _ _ _)
      | (with_reducible exact ih4 _ _ _ _)
      | (with_reducible exact bloom_All.mono _ _ _)
      | (with_reducible exact bloom_Has.mono _ _ _ _ _ _)
      | (with_reducible exact colonnadelaw13_keptValues.mono _ _ _)
      | (with_reducible exact colonnaderef13_All.mono _ _ _)
      | (with_reducible exact colonnaderef13_Has.mono _ _ _ _ _ _)
      | (with_reducible exact LeO.refl _)
      | (with_reducible exact LeO.none _)
      | (with_reducible refine LeO.ite ?_ ?_)
      | (with_reducible refine LeO.bind ?_ (fun _ => ?_))
      | exact ih0 _ _ _
      | exact ih1 _ _ _ _ _ _
      | exact ih2 _ _ _ _ _ _
      | exact ih3 _ _ _ _
      | exact ih4 _ _ _ _
      | exact bloom_All.mono _ _ _
      | exact bloom_Has.mono _ _ _ _ _ _
      | exact colonnadelaw13_keptValues.mono _ _ _
      | exact colonnaderef13_All.mono _ _ _
      | exact colonnaderef13_Has.mono _ _ _ _ _ _
      | exact LeO.none _
      | refine LeO.ite ?_ ?_
      | refine LeO.bind ?_ (fun _ => ?_)
theorem colonnadelaw13_BloomHas.mono : ∀ a0 a1 k, LeO (colonnadelaw13_BloomHas.f k a0 a1) (colonnadelaw13_BloomHas.f (k + 1) a0 a1) := by
  intro a0 a1 k
  obtain ⟨ih0, ih1, ih2, ih3, ih4⟩ := colonnadelaw13_BloomHas.mono_l k
  unfold colonnadelaw13_BloomHas.f
  repeat' first
      | (with_reducible exact ih0 _ _ _)
      | (with_reducible exact ih1 _ _ _ _ _ _)
      | (with_reducible exact ih2 _ _ _ _ _ _)
      | (with_reducible exact ih3 _ _ _ _)
      | (with_reducible exact ih4 _ _ _ _)
      | (with_reducible exact bloom_All.mono _ _ _)
      | (with_reducible exact bloom_Has.mono _ _ _ _ _ _)
      | (with_reducible exact colonnadelaw13_keptValues.mono _ _ _)
      | (with_reducible exact colonnaderef13_All.mono _ _ _)
      | (with_reducible exact colonnaderef13_Has.mono _ _ _ _ _ _)
      | (with_reducible exact LeO.refl _)
      | (with_reducible exact LeO.none _)
      | (with_reducible refine LeO.ite ?_ ?_)
      | (with_reducible refine LeO.bind ?_ (fun _ => ?_))
      | exact ih0 _ _ _
      | exact ih1 _ _ _ _ _ _
      | exact ih2 _ _ _ _ _ _
      | exact ih3 _ _ _ _
      | exact ih4 _ _ _ _
      | exact bloom_All.mono _ _ _
      | exact bloom_Has.mono _ _ _ _ _ _
      | exact colonnadelaw13_keptValues.mono _ _ _
      | exact colonnaderef13_All.mono _ _ _
      | exact colonnaderef13_Has.mono _ _ _ _ _ _
      | exact LeO.none _
      | refine LeO.ite ?_ ?_
      | refine LeO.bind ?_ (fun _ => ?_)
def colonnadelaw13_BloomHas.T13 : Bool × List (List Nat × List Nat) := (true, [([], []), ([], []), ([], []), ([1, 2], [1, 2]), ([3], [3]), ([0, 4], [0, 4]), ([], []), ([], []), ([], []), ([7, 8], [7, 8]), ([9], [9]), ([6, 10, 5], [6, 10]), ([5, 11], [5, 11]), ([12, 11], [12]), ([13], [13]), ([13], [13]), ([14, 15, 13, 13], [13, 14, 15]), ([16, 13], [13, 16]), ([13, 17], [13, 17])])
def colonnadelaw13_BloomHas.B13 : List Nat := [0, 0, 0, 6, 14, 31, 0, 0, 0, 384, 896, 2047, 4095, 8191, 16383, 16383, 65535, 131071, 262143]
theorem colonnadelaw13_BloomHas.tab13 : rtab .any (opsOf Try.f6 13) = colonnadelaw13_BloomHas.T13 := by kernel_rfl
theorem colonnadelaw13_BloomHas.bits13 : waitsOk colonnadelaw13_BloomHas.T13.2 colonnadelaw13_BloomHas.B13 = true := by kernel_rfl
set_option maxHeartbeats 8000000 in
set_option maxRecDepth 100000 in
theorem colonnadelaw13_BloomHas.calls (k : Nat) (A0 : Option Addr) (c0 : Nat) (l0 : List Int) (A1 : Option Addr) (c1 : Nat) (l1 : List (S40)) (r : Bool) (w : World) (hr0 : Kd.C (Kd.int .u8) w A0 l0.length l0) (hc0 : l0.length ≤ c0) (hr1 : Kd.C k40 w A1 l1.length l1) (hc1 : l1.length ≤ c1) (h : colonnadelaw13_BloomHas.f k l0 l1 = some r) :
    Calls Try.prog 6 #[.slice A0 l0.length c0, .slice A1 l1.length c1] w fun e w' => e = .returned (.bool r) ∧ Below w.heap.size w w' := by
  have hu40 := Try.underlying40
  have HR0 := Aside0.mk hr0
  have HC0 := Aside0.mk hc0
  clear hr0 hc0
  have HR1 := Aside0.mk hr1
  have HC1 := Aside0.mk hc1
  clear hr1 hc1
  have HB := Aside0.mk (Below.refl w.heap.size w)
  have H : ((colonnadelaw13_lent.f l0).bind fun t259 => ((colonnadelaw13_lentValues.f l1).bind fun t262 => (colonnadelaw13_BloomHas.l0 k t259 t262 0))) = some r := h
  clear h
  replace H := Option.bind_eq_some_iff.mp H
  obtain ⟨t259, A30, H⟩ := H
  replace H : ((colonnadelaw13_lentValues.f l1).bind fun t262 => (colonnadelaw13_BloomHas.l0 k t259 t262 0)) = some r := H
  have A3 := Aside0.mk A30
  clear A30
  replace H := Option.bind_eq_some_iff.mp H
  obtain ⟨t262, A40, H⟩ := H
  replace H : (colonnadelaw13_BloomHas.l0 k t259 t262 0) = some r := H
  have A4 := Aside0.mk A40
  clear A40
  have H' := Aside0.mk H
  clear H
  go_enter Try.func6, Try.ntmps6
  go_wp2_with (first | ((with_reducible refine gate_callee (f := 10) rfl ?_); refine goesL_ (some 14) rfl rfl Try.func10 (by kernel_rfl) rfl #[.slice A0 l0.length c0] rfl (by (try simp only [List.map_toArray, List.map_cons, List.map_nil]); first | done | rfl | (simp only [List.length_drop, List.length_take]; rfl)) ?_; (with_reducible refine (colonnadelaw13_lent.calls _ _ l0 t259 _ ?side1 ?side2 A3.out).mono ?_); (case side1 => repeat (first | exact HR0.out | (with_reducible refine Kd.C_alloc ?_ _) | (with_reducible refine Kd.C_drewN ?_ _) | (with_reducible refine Kd.C_drew ?_))); (case side2 => exact HC0.out); rintro e w5 ⟨v260, rfl, ho0, hb⟩; refine ⟨_, rfl, ?_⟩; have n0_ := Aside0.mk (Kd.Tb_lower ho0 (below_size (by repeat (first | (with_reducible first | exact HB.out | apply below_alloc | apply pw_below_drewN | apply below_drew1) | exact HB.out)))); have n1_ := Aside0.mk (below_step (by repeat (first | (with_reducible first | exact HB.out | apply below_alloc | apply pw_below_drewN | apply below_drew1) | exact HB.out)) hb); clear HB; have HO261 := n0_; have HB := n1_; clear n0_ n1_; (try clear hb); (try clear hb2); (try clear hk); (try clear hi); (try clear ho0)) | ((with_reducible refine gate_callee (f := 14) rfl ?_); refine goesL_ (some 16) rfl rfl Try.func14 (by kernel_rfl) rfl #[.slice A1 l1.length c1] rfl (by (try simp only [List.map_toArray, List.map_cons, List.map_nil]); first | done | rfl | (simp only [List.length_drop, List.length_take]; rfl)) ?_; (with_reducible refine (colonnadelaw13_lentValues.calls _ _ l1 t262 _ ?side1 ?side2 A4.out).mono ?_); (case side1 => repeat (first | exact (Kd.C_below HR1.out HB.out) | (with_reducible refine Kd.C_alloc ?_ _) | (with_reducible refine Kd.C_drewN ?_ _) | (with_reducible refine Kd.C_drew ?_))); (case side2 => exact HC1.out); rintro e w6 ⟨v263, rfl, ho0, hb⟩; refine ⟨_, rfl, ?_⟩; have n0_ := Aside0.mk (Kd.Tb_below (by (with_reducible repeat (first | apply Kd.Tb_alloc | apply Kd.Tb_drewN | apply Kd.Tb_drew)); exact HO261.out) hb); have n1_ := Aside0.mk (Kd.Tv_lower ho0 (below_size (by repeat (first | (with_reducible first | exact HB.out | apply below_alloc | apply pw_below_drewN | apply below_drew1) | exact HB.out)))); have n2_ := Aside0.mk (below_step (by repeat (first | (with_reducible first | exact HB.out | apply below_alloc | apply pw_below_drewN | apply below_drew1) | exact HB.out)) hb); clear HO261; clear HB; have HO261 := n0_; have HO264 := n1_; have HB := n2_; clear n0_ n1_ n2_; (try clear hb); (try clear hb2); (try clear hk); (try clear hi); (try clear ho0)))
  go_loopg [7] k (fun kq v7 w' => ∃ (x5_1 : List Int) (x6_1 : List (S40)) (x7_1 : Int), v7 = .int .i64 x7_1 ∧ Aside0 (colonnadelaw13_BloomHas.l0 kq x5_1 x6_1 x7_1 = some r) ∧ Aside0 (kq ≤ k) ∧ Aside0 (Kd.Tb (Kd.int .u8) 5 w' w.heap.size (fun _ => True) v260 x5_1) ∧ Aside0 (Kd.Tv k40 40 w' w.heap.size (fun _ => True) v263 x6_1) ∧ Aside0 (Below w.heap.size w w'))
  case atStart => exact ⟨(t259), (t262), (0), (by first | rfl | (simp; done) | (simp [*]; done)), H', ⟨Nat.le_refl _⟩, ⟨by (with_reducible repeat (first | apply Kd.Tb_alloc | apply Kd.Tb_drewN | apply Kd.Tb_drew)); exact HO261.out⟩, ⟨by (with_reducible repeat (first | apply Kd.Tv_alloc | apply Kd.Tv_drewN | apply Kd.Tv_drew)); exact HO264.out⟩, ⟨by repeat (first | (with_reducible first | exact HB.out | apply below_alloc | apply pw_below_drewN | apply below_drew1) | exact HB.out)⟩⟩
  case round =>
    clear H'
    try clear c1
    try clear p2
    try clear c6
    obtain ⟨x5_1, x6_1, x7_1, rfl, HA, HK1, HO_5, HO_6, HB⟩ := hrel
    cases gk with
    | zero => exact absurd HA.out (by simp [colonnadelaw13_BloomHas.l0])
    | succ k1 =>
      have H := HA.out
      clear HA
      simp only [colonnadelaw13_BloomHas.l0] at H
      by_cases c7 : x7_1 < 3
      · rw [if_pos c7] at H
        have c7b0 : decide (x7_1 < 3) = true := decide_eq_true c7
        clear c7
        by_cases c8 : ([] : List Int).length + x5_1.length < 140737488355328
        · rw [if_pos c8] at H
          have LMc8 := Aside0.mk c8
          clear c8
          obtain ⟨y265, hy265⟩ : ∃ y_ : List Int, y_ = (([] : List Int) ++ x5_1) := ⟨_, rfl⟩
          replace H : (if ([] : List (S40)).length + x6_1.length < 3518437208883 then ((some (([] : List (S40)) ++ x6_1 : List (S40))).bind fun y268 => ((bloom_All.f k1 x5_1 x6_1).bind fun t271 => ((colonnaderef13_All.f k1 y265 y268).bind fun t272 => (if (t271 != t272) = true then (colonnadelaw13_BloomHas.j1 k1 x5_1 x6_1 x7_1 y265 y268 true) else ((colonnadelaw13_kept.f x5_1 y265).bind fun t273 => (if t273 = true then ((colonnadelaw13_keptValues.f k1 x6_1 y268).bind fun t274 => (colonnadelaw13_BloomHas.j1 k1 x5_1 x6_1 x7_1 y265 y268 (!t274))) else (colonnadelaw13_BloomHas.j1 k1 x5_1 x6_1 x7_1 y265 y268 true))))))) else (none)) = some r := by first | (rw [hy265]; with_reducible exact H) | (have H2_ := (Option.bind_some _ _).symm.trans H; rw [hy265]; with_reducible exact H2_) | (have H2_ := (Option.bind_some _ _).symm.trans H; with_reducible exact H2_) | with_reducible exact H | (rw [hy265]; exact H) | exact H
          have Ny265 := Aside0.mk hy265
          clear hy265
          by_cases c9 : ([] : List (S40)).length + x6_1.length < 3518437208883
          · rw [if_pos c9] at H
            have LMc9 := Aside0.mk c9
            clear c9
            obtain ⟨y268, hy268⟩ : ∃ y_ : List (S40), y_ = (([] : List (S40)) ++ x6_1) := ⟨_, rfl⟩
            replace H : ((bloom_All.f k1 x5_1 x6_1).bind fun t271 => ((colonnaderef13_All.f k1 y265 y268).bind fun t272 => (if (t271 != t272) = true then (colonnadelaw13_BloomHas.j1 k1 x5_1 x6_1 x7_1 y265 y268 true) else ((colonnadelaw13_kept.f x5_1 y265).bind fun t273 => (if t273 = true then ((colonnadelaw13_keptValues.f k1 x6_1 y268).bind fun t274 => (colonnadelaw13_BloomHas.j1 k1 x5_1 x6_1 x7_1 y265 y268 (!t274))) else (colonnadelaw13_BloomHas.j1 k1 x5_1 x6_1 x7_1 y265 y268 true)))))) = some r := by first | (rw [hy268]; with_reducible exact H) | (have H2_ := (Option.bind_some _ _).symm.trans H; rw [hy268]; with_reducible exact H2_) | (have H2_ := (Option.bind_some _ _).symm.trans H; with_reducible exact H2_) | with_reducible exact H | (rw [hy268]; exact H) | exact H
            have Ny268 := Aside0.mk hy268
            clear hy268
            have HC10 := Aside0.mk H
            clear H
            obtain ⟨Ao12, co12, eo12⟩ := Kd.Tb_slice HO_5.out
            subst eo12
            go_upto_region 8 with (first | ((with_reducible refine gate_builtin (b := .append) (xs := #[.const (.slice none 0 0), .tmp 21]) rfl ?_); at_builtin; refine Kd.R_append_rows (Kd.int .u8) (w0 := w) w.heap.size rfl (.const (.slice none 0 0)) (.tmp 21) 24 5 (.int .u8 0) 1 rfl Try.underlying24 info5 rfl (by decide) (by omega) (.slice none 0 0) ([] : List Int) x5_1 _ _ _ (fun k_ => some k_ ≠ (.slice Ao12 x5_1.length co12 : Value).ownBlock) (fun _ => False) rfl rfl ?aO ?aR (fun _ _ h => h) (fun _ h => h.elim) ?aF ?aB ?aS ?aL ?_; (case aR => repeat (first | exact (Kd.Tb_reads' HO_5.out).2.2 | (with_reducible refine Kd.C_alloc ?_ _) | (with_reducible refine Kd.C_drewN ?_ _) | (with_reducible refine Kd.C_drew ?_))); (case aB => exact (by repeat (first | (with_reducible first | exact HB.out | apply below_alloc | apply pw_below_drewN | apply below_drew1) | exact HB.out))); (case aF => exact (fun k_ hk => Kd.fresh' (Kd.Tb_lt (by (with_reducible repeat (first | apply Kd.Tb_alloc | apply Kd.Tb_drewN | apply Kd.Tb_drew)); exact HO_5.out)) k_ hk)); (case aO => exact ((Kd.R_nil _ _ _ _ (fun k_ => some k_ ≠ (.slice Ao12 x5_1.length co12 : Value).ownBlock)))); (case aS => exact (below_size (by repeat (first | (with_reducible first | exact HB.out | apply below_alloc | apply pw_below_drewN | apply below_drew1) | exact HB.out)))); (case aL => have := LMc8.out; omega); intro v266 w11 ho hb hg hat; rw [← Ny265.out] at ho; have n0_ := Aside0.mk (Kd.Tb_after (Kd.Tb_apart_nil (by (with_reducible repeat (first | apply Kd.Tb_alloc | apply Kd.Tb_drewN | apply Kd.Tb_drew)); exact HO_5.out)) hg hat); have n1_ := Aside0.mk (Kd.Tv_grown (by (with_reducible repeat (first | apply Kd.Tv_alloc | apply Kd.Tv_drewN | apply Kd.Tv_drew)); exact HO_6.out) hg (fun _ _ => by simp [Value.ownBlock])); have n2_ := Aside0.mk (hb); have n3_ := Aside0.mk (ho); clear HO_5; clear HO_6; clear HB; have HO_5 := n0_; have HO_6 := n1_; have HB := n2_; have HO267 := n3_; clear n0_ n1_ n2_ n3_; clear ho hb hg hat; obtain ⟨Ao14, co14, eo14⟩ := Kd.Tv_slice HO_6.out; subst eo14) | ((with_reducible refine gate_builtin (b := .append) (xs := #[.const (.slice none 0 0), .tmp 23]) rfl ?_); at_builtin; refine Kd.R_append_rows k40 (w0 := w) w.heap.size rfl (.const (.slice none 0 0)) (.tmp 23) 33 40 (.agg #[(.int .i64 0), (.int .i64 0), (.float .f64 0), (.string ⟨#[]⟩)]) 40 rfl Try.underlying33 info40 rfl (by decide) (by omega) (.slice none 0 0) ([] : List (S40)) x6_1 _ _ _ (fun k_ => some k_ ≠ (.slice Ao14 x6_1.length co14 : Value).ownBlock) (fun _ => False) rfl rfl ?aO ?aR (fun _ _ h => h) (fun _ h => h.elim) ?aF ?aB ?aS ?aL ?_; (case aR => repeat (first | exact (Kd.Tv_reads' HO_6.out).2.2 | (with_reducible refine Kd.C_alloc ?_ _) | (with_reducible refine Kd.C_drewN ?_ _) | (with_reducible refine Kd.C_drew ?_))); (case aB => exact (by repeat (first | (with_reducible first | exact HB.out | apply below_alloc | apply pw_below_drewN | apply below_drew1) | exact HB.out))); (case aF => exact (fun k_ hk => Kd.fresh' (Kd.Tv_lt (by (with_reducible repeat (first | apply Kd.Tv_alloc | apply Kd.Tv_drewN | apply Kd.Tv_drew)); exact HO_6.out)) k_ hk)); (case aO => exact ((Kd.R_nil _ _ _ _ (fun k_ => some k_ ≠ (.slice Ao14 x6_1.length co14 : Value).ownBlock)))); (case aS => exact (below_size (by repeat (first | (with_reducible first | exact HB.out | apply below_alloc | apply pw_below_drewN | apply below_drew1) | exact HB.out)))); (case aL => have := LMc9.out; omega); intro v269 w13 ho hb hg hat; rw [← Ny268.out] at ho; have n0_ := Aside0.mk (Kd.Tb_grown (by (with_reducible repeat (first | apply Kd.Tb_alloc | apply Kd.Tb_drewN | apply Kd.Tb_drew)); exact HO_5.out) hg (fun _ _ => by simp [Value.ownBlock])); have n1_ := Aside0.mk (Kd.Tv_after (Kd.Tv_apart_nil (by (with_reducible repeat (first | apply Kd.Tv_alloc | apply Kd.Tv_drewN | apply Kd.Tv_drew)); exact HO_6.out)) hg hat); have n2_ := Aside0.mk (Kd.R_grown (by (with_reducible repeat (first | apply Kd.R_alloc | apply Kd.R_drewN | apply Kd.R_drew)); exact HO267.out) hg (fun _ _ => by simp [Value.ownBlock])); have n3_ := Aside0.mk (hb); have n4_ := Aside0.mk (ho); clear HO_5; clear HO_6; clear HO267; clear HB; have HO_5 := n0_; have HO_6 := n1_; have HO267 := n2_; have HB := n3_; have HO270 := n4_; clear n0_ n1_ n2_ n3_ n4_; clear ho hb hg hat))
            (try simp only [Act.put, List.setIfInBounds_toArray, List.set_cons_zero, List.set_cons_succ])
            go_cut [43] (fun v43 wc => ∃ (kq : Nat) (x43_9 : Bool), v43 = .bool x43_9 ∧ Aside0 (colonnadelaw13_BloomHas.j1 kq x5_1 x6_1 x7_1 y265 y268 x43_9 = some r) ∧ Aside0 (kq ≤ k1) ∧ Aside0 (Kd.Tb (Kd.int .u8) 5 wc w.heap.size (fun k_ => some k_ ≠ (v266 : Value).ownBlock) (.slice Ao12 x5_1.length co12) x5_1) ∧ Aside0 (Kd.Tv k40 40 wc w.heap.size (fun k_ => some k_ ≠ (v269 : Value).ownBlock) (.slice Ao14 x6_1.length co14) x6_1) ∧ Aside0 (Kd.R (Kd.int .u8) 5 wc w.heap.size (fun k_ => some k_ ≠ ((.slice Ao12 x5_1.length co12) : Value).ownBlock) v266 y265) ∧ Aside0 (Kd.R k40 40 wc w.heap.size (fun k_ => some k_ ≠ ((.slice Ao14 x6_1.length co14) : Value).ownBlock) v269 y268) ∧ Aside0 (Below w.heap.size w wc))
            case first =>
              have H := HC10.out
              clear HC10
              replace H := Option.bind_eq_some_iff.mp H
              obtain ⟨t271, A150, H⟩ := H
              replace H : ((colonnaderef13_All.f k1 y265 y268).bind fun t272 => (if (t271 != t272) = true then (colonnadelaw13_BloomHas.j1 k1 x5_1 x6_1 x7_1 y265 y268 true) else ((colonnadelaw13_kept.f x5_1 y265).bind fun t273 => (if t273 = true then ((colonnadelaw13_keptValues.f k1 x6_1 y268).bind fun t274 => (colonnadelaw13_BloomHas.j1 k1 x5_1 x6_1 x7_1 y265 y268 (!t274))) else (colonnadelaw13_BloomHas.j1 k1 x5_1 x6_1 x7_1 y265 y268 true))))) = some r := H
              have A15 := Aside0.mk A150
              clear A150
              replace H := Option.bind_eq_some_iff.mp H
              obtain ⟨t272, A160, H⟩ := H
              replace H : (if (t271 != t272) = true then (colonnadelaw13_BloomHas.j1 k1 x5_1 x6_1 x7_1 y265 y268 true) else ((colonnadelaw13_kept.f x5_1 y265).bind fun t273 => (if t273 = true then ((colonnadelaw13_keptValues.f k1 x6_1 y268).bind fun t274 => (colonnadelaw13_BloomHas.j1 k1 x5_1 x6_1 x7_1 y265 y268 (!t274))) else (colonnadelaw13_BloomHas.j1 k1 x5_1 x6_1 x7_1 y265 y268 true)))) = some r := H
              have A16 := Aside0.mk A160
              clear A160
              by_cases c17 : (t271 != t272) = true
              · rw [if_pos c17] at H
                have c17b0 : (t271 != t272) = true := c17
                (try (have c17b1 : decide (t271 = t272) = false := by simpa using c17))
                (try (have c17b2 : (t271 == t272) = false := by simpa using c17))
                (try (have c17b3 : ¬ (t271 = t272) := by simpa using c17))
                clear c17
                (first | rw [c17b0] | (simp only [i64_w, i32_w]; rw [c17b0]) | skip)
                have H' := Aside0.mk H
                clear H
                go_wp2_with (first | ((with_reducible refine gate_callee (f := 18) rfl ?_); refine goesL_ (some 27) rfl rfl Try.func18 (by kernel_rfl) rfl #[.slice Ao12 x5_1.length co12, .slice Ao14 x6_1.length co14] rfl (by (try simp only [List.map_toArray, List.map_cons, List.map_nil]); first | done | rfl | (simp only [List.length_drop, List.length_take]; rfl)) ?_; (with_reducible refine (bloom_All.calls k1 _ _ x5_1 _ _ x6_1 t271 _ ?side1 ?side2 ?side3 ?side4 A15.out).mono ?_); (case side1 => repeat (first | exact (Kd.Tb_reads' HO_5.out).2.2 | (with_reducible refine Kd.C_alloc ?_ _) | (with_reducible refine Kd.C_drewN ?_ _) | (with_reducible refine Kd.C_drew ?_))); (case side2 => exact (Kd.Tb_reads' HO_5.out).2.1); (case side3 => repeat (first | exact (Kd.Tv_reads' HO_6.out).2.2 | (with_reducible refine Kd.C_alloc ?_ _) | (with_reducible refine Kd.C_drewN ?_ _) | (with_reducible refine Kd.C_drew ?_))); (case side4 => exact (Kd.Tv_reads' HO_6.out).2.1); rintro e w18 ⟨rfl, hb⟩; refine ⟨_, rfl, ?_⟩; have n0_ := Aside0.mk (Kd.Tb_below (by (with_reducible repeat (first | apply Kd.Tb_alloc | apply Kd.Tb_drewN | apply Kd.Tb_drew)); exact HO_5.out) hb); have n1_ := Aside0.mk (Kd.Tv_below (by (with_reducible repeat (first | apply Kd.Tv_alloc | apply Kd.Tv_drewN | apply Kd.Tv_drew)); exact HO_6.out) hb); have n2_ := Aside0.mk (Kd.R_below (by (with_reducible repeat (first | apply Kd.R_alloc | apply Kd.R_drewN | apply Kd.R_drew)); exact HO267.out) hb); have n3_ := Aside0.mk (Kd.R_below (by (with_reducible repeat (first | apply Kd.R_alloc | apply Kd.R_drewN | apply Kd.R_drew)); exact HO270.out) hb); have n4_ := Aside0.mk (below_step (by repeat (first | (with_reducible first | exact HB.out | apply below_alloc | apply pw_below_drewN | apply below_drew1) | exact HB.out)) hb); clear HO_5; clear HO_6; clear HO267; clear HO270; clear HB; have HO_5 := n0_; have HO_6 := n1_; have HO267 := n2_; have HO270 := n3_; have HB := n4_; clear n0_ n1_ n2_ n3_ n4_; (try clear hb); (try clear hb2); (try clear hk); (try clear hi); obtain ⟨Ao19, co19, eo19⟩ := Kd.R_slice HO267.out; subst eo19; obtain ⟨Ao20, co20, eo20⟩ := Kd.R_slice HO270.out; subst eo20) | ((with_reducible refine gate_callee (f := 19) rfl ?_); refine goesL_ (some 30) rfl rfl Try.func19 (by kernel_rfl) rfl #[.slice Ao19 y265.length co19, .slice Ao20 y268.length co20] rfl (by (try simp only [List.map_toArray, List.map_cons, List.map_nil]); first | done | rfl | (simp only [List.length_drop, List.length_take]; rfl)) ?_; (with_reducible refine (colonnaderef13_All.calls k1 _ _ y265 _ _ y268 t272 _ ?side1 ?side2 ?side3 ?side4 A16.out).mono ?_); (case side1 => repeat (first | exact (Kd.R_reads' HO267.out).2.2 | (with_reducible refine Kd.C_alloc ?_ _) | (with_reducible refine Kd.C_drewN ?_ _) | (with_reducible refine Kd.C_drew ?_))); (case side2 => exact (Kd.R_reads' HO267.out).2.1); (case side3 => repeat (first | exact (Kd.R_reads' HO270.out).2.2 | (with_reducible refine Kd.C_alloc ?_ _) | (with_reducible refine Kd.C_drewN ?_ _) | (with_reducible refine Kd.C_drew ?_))); (case side4 => exact (Kd.R_reads' HO270.out).2.1); rintro e w21 ⟨rfl, hb⟩; refine ⟨_, rfl, ?_⟩; have n0_ := Aside0.mk (Kd.Tb_below (by (with_reducible repeat (first | apply Kd.Tb_alloc | apply Kd.Tb_drewN | apply Kd.Tb_drew)); exact HO_5.out) hb); have n1_ := Aside0.mk (Kd.Tv_below (by (with_reducible repeat (first | apply Kd.Tv_alloc | apply Kd.Tv_drewN | apply Kd.Tv_drew)); exact HO_6.out) hb); have n2_ := Aside0.mk (Kd.R_below (by (with_reducible repeat (first | apply Kd.R_alloc | apply Kd.R_drewN | apply Kd.R_drew)); exact HO267.out) hb); have n3_ := Aside0.mk (Kd.R_below (by (with_reducible repeat (first | apply Kd.R_alloc | apply Kd.R_drewN | apply Kd.R_drew)); exact HO270.out) hb); have n4_ := Aside0.mk (below_step (by repeat (first | (with_reducible first | exact HB.out | apply below_alloc | apply pw_below_drewN | apply below_drew1) | exact HB.out)) hb); clear HO_5; clear HO_6; clear HO267; clear HO270; clear HB; have HO_5 := n0_; have HO_6 := n1_; have HO267 := n2_; have HO270 := n3_; have HB := n4_; clear n0_ n1_ n2_ n3_ n4_; (try clear hb); (try clear hb2); (try clear hk); (try clear hi)))
                go_meet
                case rel => exact ⟨_, (true), (by first | rfl | (simp; done) | (simp [*]; done)), H', ⟨by have := HK1.out; first | omega | exact Nat.le_refl _⟩, ⟨by (with_reducible repeat (first | apply Kd.Tb_alloc | apply Kd.Tb_drewN | apply Kd.Tb_drew)); exact Kd.Tb_mono HO_5.out (fun _ hk => hk.2)⟩, ⟨by (with_reducible repeat (first | apply Kd.Tv_alloc | apply Kd.Tv_drewN | apply Kd.Tv_drew)); exact Kd.Tv_mono HO_6.out (fun _ hk => hk.2)⟩, ⟨by (with_reducible repeat (first | apply Kd.R_alloc | apply Kd.R_drewN | apply Kd.R_drew)); exact HO267.out⟩, ⟨by (with_reducible repeat (first | apply Kd.R_alloc | apply Kd.R_drewN | apply Kd.R_drew)); exact HO270.out⟩, ⟨by repeat (first | (with_reducible first | exact HB.out | apply below_alloc | apply pw_below_drewN | apply below_drew1) | exact HB.out)⟩⟩
              · rw [if_neg c17] at H
                have c17b0 : (t271 != t272) = false := by simpa using c17
                (try (have c17b1 : decide (t271 = t272) = true := by simpa using c17))
                (try (have c17b2 : (t271 == t272) = true := by simpa using c17))
                clear c17
                (first | rw [c17b0] | (simp only [i64_w, i32_w]; rw [c17b0]) | skip)
                replace H := Option.bind_eq_some_iff.mp H
                obtain ⟨t273, A220, H⟩ := H
                replace H : (if t273 = true then ((colonnadelaw13_keptValues.f k1 x6_1 y268).bind fun t274 => (colonnadelaw13_BloomHas.j1 k1 x5_1 x6_1 x7_1 y265 y268 (!t274))) else (colonnadelaw13_BloomHas.j1 k1 x5_1 x6_1 x7_1 y265 y268 true)) = some r := H
                have A22 := Aside0.mk A220
                clear A220
                by_cases c23 : t273 = true
                · subst c23
                  have H1 : ((colonnadelaw13_keptValues.f k1 x6_1 y268).bind fun t274 => (colonnadelaw13_BloomHas.j1 k1 x5_1 x6_1 x7_1 y265 y268 (!t274))) = some r := by rw [if_pos rfl] at H; exact H
                  clear H
                  have H := H1
                  clear H1
                  replace H := Option.bind_eq_some_iff.mp H
                  obtain ⟨t274, A240, H⟩ := H
                  replace H : (colonnadelaw13_BloomHas.j1 k1 x5_1 x6_1 x7_1 y265 y268 (!t274)) = some r := H
                  have A24 := Aside0.mk A240
                  clear A240
                  have H' := Aside0.mk H
                  clear H
                  go_wp2_with (first | ((with_reducible refine gate_callee (f := 18) rfl ?_); refine goesL_ (some 27) rfl rfl Try.func18 (by kernel_rfl) rfl #[.slice Ao12 x5_1.length co12, .slice Ao14 x6_1.length co14] rfl (by (try simp only [List.map_toArray, List.map_cons, List.map_nil]); first | done | rfl | (simp only [List.length_drop, List.length_take]; rfl)) ?_; (with_reducible refine (bloom_All.calls k1 _ _ x5_1 _ _ x6_1 t271 _ ?side1 ?side2 ?side3 ?side4 A15.out).mono ?_); (case side1 => repeat (first | exact (Kd.Tb_reads' HO_5.out).2.2 | (with_reducible refine Kd.C_alloc ?_ _) | (with_reducible refine Kd.C_drewN ?_ _) | (with_reducible refine Kd.C_drew ?_))); (case side2 => exact (Kd.Tb_reads' HO_5.out).2.1); (case side3 => repeat (first | exact (Kd.Tv_reads' HO_6.out).2.2 | (with_reducible refine Kd.C_alloc ?_ _) | (with_reducible refine Kd.C_drewN ?_ _) | (with_reducible refine Kd.C_drew ?_))); (case side4 => exact (Kd.Tv_reads' HO_6.out).2.1); rintro e w25 ⟨rfl, hb⟩; refine ⟨_, rfl, ?_⟩; have n0_ := Aside0.mk (Kd.Tb_below (by (with_reducible repeat (first | apply Kd.Tb_alloc | apply Kd.Tb_drewN | apply Kd.Tb_drew)); exact HO_5.out) hb); have n1_ := Aside0.mk (Kd.Tv_below (by (with_reducible repeat (first | apply Kd.Tv_alloc | apply Kd.Tv_drewN | apply Kd.Tv_drew)); exact HO_6.out) hb); have n2_ := Aside0.mk (Kd.R_below (by (with_reducible repeat (first | apply Kd.R_alloc | apply Kd.R_drewN | apply Kd.R_drew)); exact HO267.out) hb); have n3_ := Aside0.mk (Kd.R_below (by (with_reducible repeat (first | apply Kd.R_alloc | apply Kd.R_drewN | apply Kd.R_drew)); exact HO270.out) hb); have n4_ := Aside0.mk (below_step (by repeat (first | (with_reducible first | exact HB.out | apply below_alloc | apply pw_below_drewN | apply below_drew1) | exact HB.out)) hb); clear HO_5; clear HO_6; clear HO267; clear HO270; clear HB; have HO_5 := n0_; have HO_6 := n1_; have HO267 := n2_; have HO270 := n3_; have HB := n4_; clear n0_ n1_ n2_ n3_ n4_; (try clear hb); (try clear hb2); (try clear hk); (try clear hi); obtain ⟨Ao26, co26, eo26⟩ := Kd.R_slice HO267.out; subst eo26; obtain ⟨Ao27, co27, eo27⟩ := Kd.R_slice HO270.out; subst eo27) | ((with_reducible refine gate_callee (f := 19) rfl ?_); refine goesL_ (some 30) rfl rfl Try.func19 (by kernel_rfl) rfl #[.slice Ao26 y265.length co26, .slice Ao27 y268.length co27] rfl (by (try simp only [List.map_toArray, List.map_cons, List.map_nil]); first | done | rfl | (simp only [List.length_drop, List.length_take]; rfl)) ?_; (with_reducible refine (colonnaderef13_All.calls k1 _ _ y265 _ _ y268 t272 _ ?side1 ?side2 ?side3 ?side4 A16.out).mono ?_); (case side1 => repeat (first | exact (Kd.R_reads' HO267.out).2.2 | (with_reducible refine Kd.C_alloc ?_ _) | (with_reducible refine Kd.C_drewN ?_ _) | (with_reducible refine Kd.C_drew ?_))); (case side2 => exact (Kd.R_reads' HO267.out).2.1); (case side3 => repeat (first | exact (Kd.R_reads' HO270.out).2.2 | (with_reducible refine Kd.C_alloc ?_ _) | (with_reducible refine Kd.C_drewN ?_ _) | (with_reducible refine Kd.C_drew ?_))); (case side4 => exact (Kd.R_reads' HO270.out).2.1); rintro e w28 ⟨rfl, hb⟩; refine ⟨_, rfl, ?_⟩; have n0_ := Aside0.mk (Kd.Tb_below (by (with_reducible repeat (first | apply Kd.Tb_alloc | apply Kd.Tb_drewN | apply Kd.Tb_drew)); exact HO_5.out) hb); have n1_ := Aside0.mk (Kd.Tv_below (by (with_reducible repeat (first | apply Kd.Tv_alloc | apply Kd.Tv_drewN | apply Kd.Tv_drew)); exact HO_6.out) hb); have n2_ := Aside0.mk (Kd.R_below (by (with_reducible repeat (first | apply Kd.R_alloc | apply Kd.R_drewN | apply Kd.R_drew)); exact HO267.out) hb); have n3_ := Aside0.mk (Kd.R_below (by (with_reducible repeat (first | apply Kd.R_alloc | apply Kd.R_drewN | apply Kd.R_drew)); exact HO270.out) hb); have n4_ := Aside0.mk (below_step (by repeat (first | (with_reducible first | exact HB.out | apply below_alloc | apply pw_below_drewN | apply below_drew1) | exact HB.out)) hb); clear HO_5; clear HO_6; clear HO267; clear HO270; clear HB; have HO_5 := n0_; have HO_6 := n1_; have HO267 := n2_; have HO270 := n3_; have HB := n4_; clear n0_ n1_ n2_ n3_ n4_; (try clear hb); (try clear hb2); (try clear hk); (try clear hi)) | (go_at_call 13; (with_reducible refine (colonnadelaw13_kept.calls _ _ x5_1 _ _ y265 true _ ?side1 ?side2 ?side3 ?side4 A22.out).mono ?_); (case side1 => exact (Kd.Tb_readsT (by (with_reducible repeat (first | apply Kd.Tb_alloc | apply Kd.Tb_drewN | apply Kd.Tb_drew)); exact HO_5.out)).2.2); (case side2 => exact (Kd.Tb_readsT HO_5.out).2.1); (case side3 => repeat (first | exact (Kd.R_reads' HO267.out).2.2 | (with_reducible refine Kd.C_alloc ?_ _) | (with_reducible refine Kd.C_drewN ?_ _) | (with_reducible refine Kd.C_drew ?_))); (case side4 => exact (Kd.R_reads' HO267.out).2.1); rintro e w' ⟨rfl, ⟨nd, rfl⟩⟩) | (go_at_call 17; (with_reducible refine (colonnadelaw13_keptValues.calls k1 _ _ x6_1 _ _ y268 t274 _ ?side1 ?side2 ?side3 ?side4 A24.out).mono ?_); (case side1 => exact (Kd.Tv_readsT (by (with_reducible repeat (first | apply Kd.Tv_alloc | apply Kd.Tv_drewN | apply Kd.Tv_drew)); exact HO_6.out)).2.2); (case side2 => exact (Kd.Tv_readsT HO_6.out).2.1); (case side3 => repeat (first | exact (Kd.R_reads' HO270.out).2.2 | (with_reducible refine Kd.C_alloc ?_ _) | (with_reducible refine Kd.C_drewN ?_ _) | (with_reducible refine Kd.C_drew ?_))); (case side4 => exact (Kd.R_reads' HO270.out).2.1); rintro e w29 ⟨rfl, hb⟩; (try clear A22); have n0_ := Aside0.mk (Kd.Tb_below (by (with_reducible repeat (first | apply Kd.Tb_alloc | apply Kd.Tb_drewN | apply Kd.Tb_drew)); exact HO_5.out) hb); have n1_ := Aside0.mk (Kd.Tv_below (by (with_reducible repeat (first | apply Kd.Tv_alloc | apply Kd.Tv_drewN | apply Kd.Tv_drew)); exact HO_6.out) hb); have n2_ := Aside0.mk (Kd.R_below (by (with_reducible repeat (first | apply Kd.R_alloc | apply Kd.R_drewN | apply Kd.R_drew)); exact HO267.out) hb); have n3_ := Aside0.mk (Kd.R_below (by (with_reducible repeat (first | apply Kd.R_alloc | apply Kd.R_drewN | apply Kd.R_drew)); exact HO270.out) hb); have n4_ := Aside0.mk (below_step (by repeat (first | (with_reducible first | exact HB.out | apply below_alloc | apply pw_below_drewN | apply below_drew1) | exact HB.out)) hb); clear HO_5; clear HO_6; clear HO267; clear HO270; clear HB; have HO_5 := n0_; have HO_6 := n1_; have HO267 := n2_; have HO270 := n3_; have HB := n4_; clear n0_ n1_ n2_ n3_ n4_; (try clear hb); (try clear hb2); (try clear hk); (try clear hi)))
                  go_meet
                  case rel => exact ⟨_, (!t274), (by first | rfl | (simp; done) | (simp [*]; done)), H', ⟨by have := HK1.out; first | omega | exact Nat.le_refl _⟩, ⟨by (with_reducible repeat (first | apply Kd.Tb_alloc | apply Kd.Tb_drewN | apply Kd.Tb_drew)); exact Kd.Tb_mono HO_5.out (fun _ hk => hk.2)⟩, ⟨by (with_reducible repeat (first | apply Kd.Tv_alloc | apply Kd.Tv_drewN | apply Kd.Tv_drew)); exact Kd.Tv_mono HO_6.out (fun _ hk => hk.2)⟩, ⟨by (with_reducible repeat (first | apply Kd.R_alloc | apply Kd.R_drewN | apply Kd.R_drew)); exact HO267.out⟩, ⟨by (with_reducible repeat (first | apply Kd.R_alloc | apply Kd.R_drewN | apply Kd.R_drew)); exact HO270.out⟩, ⟨by repeat (first | (with_reducible first | exact HB.out | apply below_alloc | apply pw_below_drewN | apply below_drew1) | exact HB.out)⟩⟩
                · replace c23 := Bool.eq_false_iff.mpr c23
                  subst c23
                  have H1 : (colonnadelaw13_BloomHas.j1 k1 x5_1 x6_1 x7_1 y265 y268 true) = some r := by rw [if_neg (show ¬ (false = true) by decide)] at H; exact H
                  clear H
                  have H := H1
                  clear H1
                  have H' := Aside0.mk H
                  clear H
                  go_wp2_with (first | ((with_reducible refine gate_callee (f := 18) rfl ?_); refine goesL_ (some 27) rfl rfl Try.func18 (by kernel_rfl) rfl #[.slice Ao12 x5_1.length co12, .slice Ao14 x6_1.length co14] rfl (by (try simp only [List.map_toArray, List.map_cons, List.map_nil]); first | done | rfl | (simp only [List.length_drop, List.length_take]; rfl)) ?_; (with_reducible refine (bloom_All.calls k1 _ _ x5_1 _ _ x6_1 t271 _ ?side1 ?side2 ?side3 ?side4 A15.out).mono ?_); (case side1 => repeat (first | exact (Kd.Tb_reads' HO_5.out).2.2 | (with_reducible refine Kd.C_alloc ?_ _) | (with_reducible refine Kd.C_drewN ?_ _) | (with_reducible refine Kd.C_drew ?_))); (case side2 => exact (Kd.Tb_reads' HO_5.out).2.1); (case side3 => repeat (first | exact (Kd.Tv_reads' HO_6.out).2.2 | (with_reducible refine Kd.C_alloc ?_ _) | (with_reducible refine Kd.C_drewN ?_ _) | (with_reducible refine Kd.C_drew ?_))); (case side4 => exact (Kd.Tv_reads' HO_6.out).2.1); rintro e w30 ⟨rfl, hb⟩; refine ⟨_, rfl, ?_⟩; have n0_ := Aside0.mk (Kd.Tb_below (by (with_reducible repeat (first | apply Kd.Tb_alloc | apply Kd.Tb_drewN | apply Kd.Tb_drew)); exact HO_5.out) hb); have n1_ := Aside0.mk (Kd.Tv_below (by (with_reducible repeat (first | apply Kd.Tv_alloc | apply Kd.Tv_drewN | apply Kd.Tv_drew)); exact HO_6.out) hb); have n2_ := Aside0.mk (Kd.R_below (by (with_reducible repeat (first | apply Kd.R_alloc | apply Kd.R_drewN | apply Kd.R_drew)); exact HO267.out) hb); have n3_ := Aside0.mk (Kd.R_below (by (with_reducible repeat (first | apply Kd.R_alloc | apply Kd.R_drewN | apply Kd.R_drew)); exact HO270.out) hb); have n4_ := Aside0.mk (below_step (by repeat (first | (with_reducible first | exact HB.out | apply below_alloc | apply pw_below_drewN | apply below_drew1) | exact HB.out)) hb); clear HO_5; clear HO_6; clear HO267; clear HO270; clear HB; have HO_5 := n0_; have HO_6 := n1_; have HO267 := n2_; have HO270 := n3_; have HB := n4_; clear n0_ n1_ n2_ n3_ n4_; (try clear hb); (try clear hb2); (try clear hk); (try clear hi); obtain ⟨Ao31, co31, eo31⟩ := Kd.R_slice HO267.out; subst eo31; obtain ⟨Ao32, co32, eo32⟩ := Kd.R_slice HO270.out; subst eo32) | ((with_reducible refine gate_callee (f := 19) rfl ?_); refine goesL_ (some 30) rfl rfl Try.func19 (by kernel_rfl) rfl #[.slice Ao31 y265.length co31, .slice Ao32 y268.length co32] rfl (by (try simp only [List.map_toArray, List.map_cons, List.map_nil]); first | done | rfl | (simp only [List.length_drop, List.length_take]; rfl)) ?_; (with_reducible refine (colonnaderef13_All.calls k1 _ _ y265 _ _ y268 t272 _ ?side1 ?side2 ?side3 ?side4 A16.out).mono ?_); (case side1 => repeat (first | exact (Kd.R_reads' HO267.out).2.2 | (with_reducible refine Kd.C_alloc ?_ _) | (with_reducible refine Kd.C_drewN ?_ _) | (with_reducible refine Kd.C_drew ?_))); (case side2 => exact (Kd.R_reads' HO267.out).2.1); (case side3 => repeat (first | exact (Kd.R_reads' HO270.out).2.2 | (with_reducible refine Kd.C_alloc ?_ _) | (with_reducible refine Kd.C_drewN ?_ _) | (with_reducible refine Kd.C_drew ?_))); (case side4 => exact (Kd.R_reads' HO270.out).2.1); rintro e w33 ⟨rfl, hb⟩; refine ⟨_, rfl, ?_⟩; have n0_ := Aside0.mk (Kd.Tb_below (by (with_reducible repeat (first | apply Kd.Tb_alloc | apply Kd.Tb_drewN | apply Kd.Tb_drew)); exact HO_5.out) hb); have n1_ := Aside0.mk (Kd.Tv_below (by (with_reducible repeat (first | apply Kd.Tv_alloc | apply Kd.Tv_drewN | apply Kd.Tv_drew)); exact HO_6.out) hb); have n2_ := Aside0.mk (Kd.R_below (by (with_reducible repeat (first | apply Kd.R_alloc | apply Kd.R_drewN | apply Kd.R_drew)); exact HO267.out) hb); have n3_ := Aside0.mk (Kd.R_below (by (with_reducible repeat (first | apply Kd.R_alloc | apply Kd.R_drewN | apply Kd.R_drew)); exact HO270.out) hb); have n4_ := Aside0.mk (below_step (by repeat (first | (with_reducible first | exact HB.out | apply below_alloc | apply pw_below_drewN | apply below_drew1) | exact HB.out)) hb); clear HO_5; clear HO_6; clear HO267; clear HO270; clear HB; have HO_5 := n0_; have HO_6 := n1_; have HO267 := n2_; have HO270 := n3_; have HB := n4_; clear n0_ n1_ n2_ n3_ n4_; (try clear hb); (try clear hb2); (try clear hk); (try clear hi)) | (go_at_call 13; (with_reducible refine (colonnadelaw13_kept.calls _ _ x5_1 _ _ y265 false _ ?side1 ?side2 ?side3 ?side4 A22.out).mono ?_); (case side1 => exact (Kd.Tb_readsT (by (with_reducible repeat (first | apply Kd.Tb_alloc | apply Kd.Tb_drewN | apply Kd.Tb_drew)); exact HO_5.out)).2.2); (case side2 => exact (Kd.Tb_readsT HO_5.out).2.1); (case side3 => repeat (first | exact (Kd.R_reads' HO267.out).2.2 | (with_reducible refine Kd.C_alloc ?_ _) | (with_reducible refine Kd.C_drewN ?_ _) | (with_reducible refine Kd.C_drew ?_))); (case side4 => exact (Kd.R_reads' HO267.out).2.1); rintro e w' ⟨rfl, ⟨nd, rfl⟩⟩))
                  go_meet
                  case rel => exact ⟨_, (true), (by first | rfl | (simp; done) | (simp [*]; done)), H', ⟨by have := HK1.out; first | omega | exact Nat.le_refl _⟩, ⟨by (with_reducible repeat (first | apply Kd.Tb_alloc | apply Kd.Tb_drewN | apply Kd.Tb_drew)); exact Kd.Tb_mono HO_5.out (fun _ hk => hk.2)⟩, ⟨by (with_reducible repeat (first | apply Kd.Tv_alloc | apply Kd.Tv_drewN | apply Kd.Tv_drew)); exact Kd.Tv_mono HO_6.out (fun _ hk => hk.2)⟩, ⟨by (with_reducible repeat (first | apply Kd.R_alloc | apply Kd.R_drewN | apply Kd.R_drew)); exact HO267.out⟩, ⟨by (with_reducible repeat (first | apply Kd.R_alloc | apply Kd.R_drewN | apply Kd.R_drew)); exact HO270.out⟩, ⟨by repeat (first | (with_reducible first | exact HB.out | apply below_alloc | apply pw_below_drewN | apply below_drew1) | exact HB.out)⟩⟩
            case rest =>
              clear HC10
              try clear c1
              try clear c2
              try clear p2
              try clear c6
              try clear c7
              try clear c7b0
              try clear c8
              try clear c9
              try clear c10
              try clear c14
              try clear c17
              try clear c17b0
              try clear c17b1
              try clear c17b2
              try clear c18
              try clear c19
              try clear c23
              try clear p2
              obtain ⟨kq, x43_9, rfl, HA, HJ9, HO_5, HO_6, HO_8, HO_9, HB⟩ := hcut
              cases kq with
              | zero => exact absurd HA.out (by simp [colonnadelaw13_BloomHas.j1])
              | succ kj9 =>
                have H := HA.out
                clear HA
                simp only [colonnadelaw13_BloomHas.j1] at H
                by_cases c34 : x43_9 = true
                · subst c34
                  have H1 : (some false) = some r := by rw [if_pos rfl] at H; exact H
                  clear H
                  have H := H1
                  clear H1
                  obtain rfl := Option.some.inj H
                  go_wp2
                  go_ret
                  exact ⟨by first | rfl | (simp [errW_none, errW_some] <;> rfl) | (simp [*, errW_none, errW_some] <;> rfl), by repeat (first | (with_reducible first | exact HB.out | apply below_alloc | apply pw_below_drewN | apply below_drew1) | exact HB.out)⟩
                · replace c34 := Bool.eq_false_iff.mpr c34
                  subst c34
                  have H1 : (colonnadelaw13_BloomHas.l1 kj9 x5_1 x6_1 x7_1 y265 y268 0) = some r := by rw [if_neg (show ¬ (false = true) by decide)] at H; exact H
                  clear H
                  have H := H1
                  clear H1
                  have H' := Aside0.mk H
                  clear H
                  go_wp2
                  go_loopg [10] kj9 (fun kq v10 w' => ∃ (x10_3 : Int), v10 = .int .i64 x10_3 ∧ Aside0 (colonnadelaw13_BloomHas.l1 kq x5_1 x6_1 x7_1 y265 y268 x10_3 = some r) ∧ Aside0 (kq ≤ kj9) ∧ Aside0 (Kd.Tb (Kd.int .u8) 5 w' w.heap.size (fun k_ => some k_ ≠ (v266 : Value).ownBlock) (.slice Ao12 x5_1.length co12) x5_1) ∧ Aside0 (Kd.Tv k40 40 w' w.heap.size (fun k_ => some k_ ≠ (v269 : Value).ownBlock) (.slice Ao14 x6_1.length co14) x6_1) ∧ Aside0 (Kd.R (Kd.int .u8) 5 w' w.heap.size (fun k_ => some k_ ≠ ((.slice Ao12 x5_1.length co12) : Value).ownBlock) v266 y265) ∧ Aside0 (Kd.R k40 40 w' w.heap.size (fun k_ => some k_ ≠ ((.slice Ao14 x6_1.length co14) : Value).ownBlock) v269 y268) ∧ Aside0 (Below w.heap.size w w'))
                  case atStart => exact ⟨(0), (by first | rfl | (simp; done) | (simp [*]; done)), H', ⟨Nat.le_refl _⟩, ⟨by (with_reducible repeat (first | apply Kd.Tb_alloc | apply Kd.Tb_drewN | apply Kd.Tb_drew)); exact HO_5.out⟩, ⟨by (with_reducible repeat (first | apply Kd.Tv_alloc | apply Kd.Tv_drewN | apply Kd.Tv_drew)); exact HO_6.out⟩, ⟨by (with_reducible repeat (first | apply Kd.R_alloc | apply Kd.R_drewN | apply Kd.R_drew)); exact HO_8.out⟩, ⟨by (with_reducible repeat (first | apply Kd.R_alloc | apply Kd.R_drewN | apply Kd.R_drew)); exact HO_9.out⟩, ⟨by repeat (first | (with_reducible first | exact HB.out | apply below_alloc | apply pw_below_drewN | apply below_drew1) | exact HB.out)⟩⟩
                  case round =>
                    clear H'
                    try clear c1
                    try clear c2
                    try clear p2
                    try clear c3
                    try clear c6
                    try clear c7
                    try clear c7b0
                    try clear c8
                    try clear c9
                    try clear c10
                    try clear c14
                    try clear c17
                    try clear c17b0
                    try clear c17b1
                    try clear c17b2
                    try clear c18
                    try clear c19
                    try clear c23
                    try clear c34
                    try clear p2
                    obtain ⟨x10_3, rfl, HA, HK3, HO_5, HO_6, HO_8, HO_9, HB⟩ := hrel
                    cases gk with
                    | zero => exact absurd HA.out (by simp [colonnadelaw13_BloomHas.l1])
                    | succ k3 =>
                      have H := HA.out
                      clear HA
                      simp only [colonnadelaw13_BloomHas.l1] at H
                      by_cases c35 : x10_3 < (x6_1.length : Int)
                      · rw [if_pos c35] at H
                        have c35b0 : decide (x10_3 < (x6_1.length : Int)) = true := decide_eq_true c35
                        clear c35
                        by_cases c36 : 0 ≤ x10_3
                        · rw [if_pos c36] at H
                          have c36b0 : decide (0 ≤ x10_3) = true := decide_eq_true c36
                          clear c36
                          replace H := Option.bind_eq_some_iff.mp H
                          obtain ⟨t276, A370, H⟩ := H
                          replace H : (if x10_3 < (y268.length : Int) then ((colonnaderef13_Has.f k3 y265 ((rd_T40 y268 x10_3).f0) ((rd_T40 y268 x10_3).f1) ((rd_T40 y268 x10_3).f2) ((rd_T40 y268 x10_3).f3)).bind fun t278 => (if (t276 != t278) = true then (some false) else ((colonnadelaw13_kept.f x5_1 y265).bind fun t279 => (if t279 = true then (colonnadelaw13_BloomHas.l1 k3 x5_1 x6_1 x7_1 y265 y268 (wrap64 (x10_3 + 1))) else (some false))))) else (none)) = some r := H
                          have A37 := Aside0.mk A370
                          clear A370
                          by_cases c38 : x10_3 < (y268.length : Int)
                          · rw [if_pos c38] at H
                            have c38b0 : decide (x10_3 < (y268.length : Int)) = true := decide_eq_true c38
                            clear c38
                            replace H := Option.bind_eq_some_iff.mp H
                            obtain ⟨t278, A390, H⟩ := H
                            replace H : (if (t276 != t278) = true then (some false) else ((colonnadelaw13_kept.f x5_1 y265).bind fun t279 => (if t279 = true then (colonnadelaw13_BloomHas.l1 k3 x5_1 x6_1 x7_1 y265 y268 (wrap64 (x10_3 + 1))) else (some false)))) = some r := H
                            have A39 := Aside0.mk A390
                            clear A390
                            by_cases c40 : (t276 != t278) = true
                            · rw [if_pos c40] at H
                              have c40b0 : (t276 != t278) = true := c40
                              (try (have c40b1 : decide (t276 = t278) = false := by simpa using c40))
                              (try (have c40b2 : (t276 == t278) = false := by simpa using c40))
                              (try (have c40b3 : ¬ (t276 = t278) := by simpa using c40))
                              clear c40
                              obtain rfl := Option.some.inj H
                              try go_wp2
                              have n0_ := Aside0.mk (Kd.Tb_drew HO_5.out)
                              have n1_ := Aside0.mk (Kd.Tv_drew HO_6.out)
                              have n2_ := Aside0.mk (Kd.R_drew HO_8.out)
                              have n3_ := Aside0.mk (Kd.R_drew HO_9.out)
                              have n4_ := Aside0.mk (below_drew1 HB.out)
                              clear HO_5
                              clear HO_6
                              clear HO_8
                              clear HO_9
                              clear HB
                              have HO_5 := n0_
                              have HO_6 := n1_
                              have HO_8 := n2_
                              have HO_9 := n3_
                              have HB := n4_
                              clear n0_ n1_ n2_ n3_ n4_
                              have p275 : 0 ≤ (x10_3 : Int) := of_decide_eq_true (by first | (with_reducible assumption) | assumption)
                              have q275 : x10_3 < (x6_1.length : Int) := of_decide_eq_true (by first | (with_reducible assumption) | assumption)
                              obtain ⟨ad275, e275, hx275_0, hx275_1, hx275_2, hx275_3⟩ := at_T40 (Kd.Tv_reads' HO_6.out).2.2 x10_3 p275 q275
                              cases e275
                              replace p275 := eq_true p275
                              replace q275 := eq_true q275
                              obtain ⟨Ao42, co42, eo42⟩ := Kd.R_slice HO_9.out
                              (first | subst eo42 | (injection eo42 with f1_ f2_ f3_; have f4_ := f1_.symm; have f5_ := f3_.symm; clear f1_ f2_ f3_; subst f4_; subst f5_))
                              have p277 : 0 ≤ (x10_3 : Int) := of_decide_eq_true (by first | (with_reducible assumption) | assumption)
                              have q277 : x10_3 < (y268.length : Int) := of_decide_eq_true (by first | (with_reducible assumption) | assumption)
                              obtain ⟨ad277, e277, hx277_0, hx277_1, hx277_2, hx277_3⟩ := at_T40 (Kd.R_reads' HO_9.out).2.2 x10_3 p277 q277
                              cases e277
                              replace p277 := eq_true p277
                              replace q277 := eq_true q277
                              refine start_ (n := 19) (S := fun w' => w'.cell? (ad275.add ((x10_3).toNat * 4)) = some (.int .i64 ((rd_T40 x6_1 x10_3).f0)) ∧ w'.cell? ⟨(ad275.add ((x10_3).toNat * 4)).block, (ad275.add ((x10_3).toNat * 4)).off + 1, none⟩ = some (.int .i64 ((rd_T40 x6_1 x10_3).f1)) ∧ w'.cell? ⟨(ad275.add ((x10_3).toNat * 4)).block, (ad275.add ((x10_3).toNat * 4)).off + 2, none⟩ = some (.float .f64 ((rd_T40 x6_1 x10_3).f2)) ∧ w'.cell? ⟨(ad275.add ((x10_3).toNat * 4)).block, (ad275.add ((x10_3).toNat * 4)).off + 3, none⟩ = some (.string ((rd_T40 x6_1 x10_3).f3)) ∧ w'.cell? (ad277.add ((x10_3).toNat * 4)) = some (.int .i64 ((rd_T40 y268 x10_3).f0)) ∧ w'.cell? ⟨(ad277.add ((x10_3).toNat * 4)).block, (ad277.add ((x10_3).toNat * 4)).off + 1, none⟩ = some (.int .i64 ((rd_T40 y268 x10_3).f1)) ∧ w'.cell? ⟨(ad277.add ((x10_3).toNat * 4)).block, (ad277.add ((x10_3).toNat * 4)).off + 2, none⟩ = some (.float .f64 ((rd_T40 y268 x10_3).f2)) ∧ w'.cell? ⟨(ad277.add ((x10_3).toNat * 4)).block, (ad277.add ((x10_3).toNat * 4)).off + 3, none⟩ = some (.string ((rd_T40 y268 x10_3).f3))) (ds := []) #[false, false, false, false, false, false, false, false, false, false, false, false, false, false, false, false, false, false, false] (by kernel_rfl) rfl rfl ⟨hx275_0, hx275_1, hx275_2, hx275_3, hx277_0, hx277_1, hx277_2, hx277_3⟩ (fun hHeld => ?_); refine with_tabW colonnadelaw13_BloomHas.tab13 colonnadelaw13_BloomHas.bits13 (fun HT_ HW_ => ?_)
                              generalize wr.drew = w41 at HO_5 HO_6 HO_8 HO_9 HB hx275_0 hx275_1 hx275_2 hx275_3 hx277_0 hx277_1 hx277_2 hx277_3 hHeld ⊢
                              refine pure_ (i := 0) (N := some 50) (v := ?_) (a' := ?_) #[true, false, false, false, false, false, false, false, false, false, false, false, false, false, false, false, false, false, false] rfl rfl (any_of HT_.out (by kernel_rfl)) (fun _ _ _ h => h) (Or.inl ⟨by rfl, ?_⟩) ?_ ?_
                              rotate_left
                              · intro w'
                                go_simp
                                with_reducible rfl
                              rotate_left
                              · simp only [Act.put, List.setIfInBounds_toArray, List.set_cons_zero, List.set_cons_succ, i64_w, i32_w]
                                rfl
                              refine pure_ (i := 1) (N := some 51) (v := ?_) (a' := ?_) #[true, true, false, false, false, false, false, false, false, false, false, false, false, false, false, false, false, false, false] rfl rfl (any_of HT_.out (by kernel_rfl)) (fun _ _ _ h => h) (Or.inl ⟨by rfl, ?_⟩) ?_ ?_
                              rotate_left
                              · intro w'
                                go_simp
                                with_reducible rfl
                              rotate_left
                              · simp only [Act.put, List.setIfInBounds_toArray, List.set_cons_zero, List.set_cons_succ, i64_w, i32_w]
                                rfl
                              refine pure_ (i := 2) (N := some 52) (v := ?_) (a' := ?_) #[true, true, true, false, false, false, false, false, false, false, false, false, false, false, false, false, false, false, false] rfl rfl (any_of HT_.out (by kernel_rfl)) (fun _ _ _ h => h) (Or.inl ⟨by rfl, ?_⟩) ?_ ?_
                              rotate_left
                              · intro w'
                                go_simp
                                with_reducible rfl
                              rotate_left
                              · simp only [Act.put, List.setIfInBounds_toArray, List.set_cons_zero, List.set_cons_succ, i64_w, i32_w]
                                rfl
                              refine pure_ (i := 3) (N := some 53) (v := ?_) (a' := ?_) #[true, true, true, true, false, false, false, false, false, false, false, false, false, false, false, false, false, false, false] rfl rfl (any_of HT_.out (by kernel_rfl)) (fun _ _ _ h => h) (Or.inl ⟨by rfl, ?_⟩) ?_ ?_
                              rotate_left
                              · intro w'
                                go_simp
                                with_reducible rfl
                              rotate_left
                              · simp only [Act.put, List.setIfInBounds_toArray, List.set_cons_zero, List.set_cons_succ, i64_w, i32_w]
                                rfl
                              refine pure_ (i := 6) (N := some 56) (v := ?_) (a' := ?_) #[true, true, true, true, false, false, true, false, false, false, false, false, false, false, false, false, false, false, false] rfl rfl (any_of HT_.out (by kernel_rfl)) (fun _ _ _ h => h) (Or.inl ⟨by rfl, ?_⟩) ?_ ?_
                              rotate_left
                              · intro w'
                                go_simp
                                with_reducible rfl
                              rotate_left
                              · simp only [Act.put, List.setIfInBounds_toArray, List.set_cons_zero, List.set_cons_succ, i64_w, i32_w]
                                rfl
                              refine pure_ (i := 7) (N := some 57) (v := ?_) (a' := ?_) #[true, true, true, true, false, false, true, true, false, false, false, false, false, false, false, false, false, false, false] rfl rfl (any_of HT_.out (by kernel_rfl)) (fun _ _ _ h => h) (Or.inl ⟨by rfl, ?_⟩) ?_ ?_
                              rotate_left
                              · intro w'
                                go_simp
                                with_reducible rfl
                              rotate_left
                              · simp only [Act.put, List.setIfInBounds_toArray, List.set_cons_zero, List.set_cons_succ, i64_w, i32_w]
                                rfl
                              refine pure_ (i := 8) (N := some 58) (v := ?_) (a' := ?_) #[true, true, true, true, false, false, true, true, true, false, false, false, false, false, false, false, false, false, false] rfl rfl (any_of HT_.out (by kernel_rfl)) (fun _ _ _ h => h) (Or.inl ⟨by rfl, ?_⟩) ?_ ?_
                              rotate_left
                              · intro w'
                                go_simp
                                with_reducible rfl
                              rotate_left
                              · simp only [Act.put, List.setIfInBounds_toArray, List.set_cons_zero, List.set_cons_succ, i64_w, i32_w]
                                rfl
                              refine pure_ (i := 9) (N := some 59) (v := ?_) (a' := ?_) #[true, true, true, true, false, false, true, true, true, true, false, false, false, false, false, false, false, false, false] rfl rfl (any_of HT_.out (by kernel_rfl)) (fun _ _ _ h => h) (Or.inl ⟨by rfl, ?_⟩) ?_ ?_
                              rotate_left
                              · intro w'
                                go_simp
                                with_reducible rfl
                              rotate_left
                              · simp only [Act.put, List.setIfInBounds_toArray, List.set_cons_zero, List.set_cons_succ, i64_w, i32_w]
                                rfl
                              refine take_ (i := 4) (N := some 54) (v := ?_) (a' := ?_) #[true, true, true, true, true, false, true, true, true, true, false, false, false, false, false, false, false, false, false] rfl rfl (take_ofW HT_.out HW_.out (by kernel_rfl)) (fun _ _ _ h => h) (Or.inl ⟨by rfl, ?_⟩) hHeld ?_ ?_
                              rotate_left
                              · rintro w' ⟨s0, s1, s2, s3, s4, s5, s6, s7⟩
                                go_simp
                                with_reducible rfl
                              rotate_left
                              · simp only [Act.put, List.setIfInBounds_toArray, List.set_cons_zero, List.set_cons_succ, i64_w, i32_w]
                                rfl
                              refine take_ (i := 10) (N := some 60) (v := ?_) (a' := ?_) #[true, true, true, true, true, false, true, true, true, true, true, false, false, false, false, false, false, false, false] rfl rfl (take_ofW HT_.out HW_.out (by kernel_rfl)) (fun _ _ _ h => h) (Or.inl ⟨by rfl, ?_⟩) hHeld ?_ ?_
                              rotate_left
                              · rintro w' ⟨s0, s1, s2, s3, s4, s5, s6, s7⟩
                                go_simp
                                with_reducible rfl
                              rotate_left
                              · simp only [Act.put, List.setIfInBounds_toArray, List.set_cons_zero, List.set_cons_succ, i64_w, i32_w]
                                rfl
                              refine one_ (i := 5) (N := some 55) #[true, true, true, true, true, true, true, true, true, true, true, false, false, false, false, false, false, false, false] rfl rfl (one_of HT_.out (by kernel_rfl)) (by decide) (fun K hK => ?_)
                              refine goes_ Try.func20 (by kernel_rfl) rfl #[.slice Ao12 x5_1.length co12, .agg #[.int .i64 ((rd_T40 x6_1 x10_3).f0), .int .i64 ((rd_T40 x6_1 x10_3).f1), .float .f64 ((rd_T40 x6_1 x10_3).f2), .string ((rd_T40 x6_1 x10_3).f3)]] (by rfl) rfl rfl (by (try simp only [List.map_toArray, List.map_cons, List.map_nil]); first | done | rfl | (simp only [List.length_drop, List.length_take]; rfl)) ?_
                              with_reducible refine (bloom_Has.calls k3 _ _ x5_1 ((rd_T40 x6_1 x10_3).f0) ((rd_T40 x6_1 x10_3).f1) ((rd_T40 x6_1 x10_3).f2) ((rd_T40 x6_1 x10_3).f3) t276 _ ?side1 ?side2 A37.out).mono ?_
                              (case side1 => repeat (first | exact (Kd.Tb_reads' HO_5.out).2.2 | (with_reducible refine Kd.C_alloc ?_ _) | (with_reducible refine Kd.C_drewN ?_ _) | (with_reducible refine Kd.C_drew ?_)))
                              (case side2 => exact (Kd.Tb_reads' HO_5.out).2.1)
                              rintro e w43 ⟨rfl, hb⟩
                              have HS0_ := (hb.cell (World.block_lt_of_cell? _ _ (hHeld.1))).trans (hHeld.1)
                              have HS1_ := (hb.cell (World.block_lt_of_cell? _ _ (hHeld.2.1))).trans (hHeld.2.1)
                              have HS2_ := (hb.cell (World.block_lt_of_cell? _ _ (hHeld.2.2.1))).trans (hHeld.2.2.1)
                              have HS3_ := (hb.cell (World.block_lt_of_cell? _ _ (hHeld.2.2.2.1))).trans (hHeld.2.2.2.1)
                              have HS4_ := (hb.cell (World.block_lt_of_cell? _ _ (hHeld.2.2.2.2.1))).trans (hHeld.2.2.2.2.1)
                              have HS5_ := (hb.cell (World.block_lt_of_cell? _ _ (hHeld.2.2.2.2.2.1))).trans (hHeld.2.2.2.2.2.1)
                              have HS6_ := (hb.cell (World.block_lt_of_cell? _ _ (hHeld.2.2.2.2.2.2.1))).trans (hHeld.2.2.2.2.2.2.1)
                              have HS7_ := (hb.cell (World.block_lt_of_cell? _ _ (hHeld.2.2.2.2.2.2.2))).trans (hHeld.2.2.2.2.2.2.2)
                              refine ⟨_, rfl, ?_⟩
                              have n0_ := Aside0.mk (Kd.Tb_below (by (with_reducible repeat (first | apply Kd.Tb_alloc | apply Kd.Tb_drewN | apply Kd.Tb_drew)); exact HO_5.out) hb)
                              have n1_ := Aside0.mk (Kd.Tv_below (by (with_reducible repeat (first | apply Kd.Tv_alloc | apply Kd.Tv_drewN | apply Kd.Tv_drew)); exact HO_6.out) hb)
                              have n2_ := Aside0.mk (Kd.R_below (by (with_reducible repeat (first | apply Kd.R_alloc | apply Kd.R_drewN | apply Kd.R_drew)); exact HO_8.out) hb)
                              have n3_ := Aside0.mk (Kd.R_below (by (with_reducible repeat (first | apply Kd.R_alloc | apply Kd.R_drewN | apply Kd.R_drew)); exact HO_9.out) hb)
                              have n4_ := Aside0.mk (below_step (by repeat (first | (with_reducible first | exact HB.out | apply below_alloc | apply pw_below_drewN | apply below_drew1) | exact HB.out)) hb)
                              clear HO_5
                              clear HO_6
                              clear HO_8
                              clear HO_9
                              clear HB
                              have HO_5 := n0_
                              have HO_6 := n1_
                              have HO_8 := n2_
                              have HO_9 := n3_
                              have HB := n4_
                              clear n0_ n1_ n2_ n3_ n4_
                              (try clear hb)
                              (try clear hb2)
                              (try clear hk)
                              (try clear hi)
                              obtain ⟨Ao44, co44, eo44⟩ := Kd.R_slice HO_8.out
                              (first | subst eo44 | (injection eo44 with f1_ f2_ f3_; have f4_ := f1_.symm; have f5_ := f3_.symm; clear f1_ f2_ f3_; subst f4_; subst f5_))
                              refine hK.out _ _ ⟨HS0_, HS1_, HS2_, HS3_, HS4_, HS5_, HS6_, HS7_⟩ (fun hHeld => ?_)
                              clear hK K
                              refine norm_ (a' := ?_) ?_ ?_
                              rotate_left
                              · show Act.put _ (some 55) _ = _
                                simp only [Act.put, List.setIfInBounds_toArray, List.set_cons_zero, List.set_cons_succ, i64_w, i32_w]
                                rfl
                              refine one_ (i := 11) (N := some 61) #[true, true, true, true, true, true, true, true, true, true, true, true, false, false, false, false, false, false, false] rfl rfl (one_of HT_.out (by kernel_rfl)) (by decide) (fun K hK => ?_)
                              refine goes_ Try.func21 (by kernel_rfl) rfl #[.slice Ao44 y265.length co44, .agg #[.int .i64 ((rd_T40 y268 x10_3).f0), .int .i64 ((rd_T40 y268 x10_3).f1), .float .f64 ((rd_T40 y268 x10_3).f2), .string ((rd_T40 y268 x10_3).f3)]] (by rfl) rfl rfl (by (try simp only [List.map_toArray, List.map_cons, List.map_nil]); first | done | rfl | (simp only [List.length_drop, List.length_take]; rfl)) ?_
                              with_reducible refine (colonnaderef13_Has.calls k3 _ _ y265 ((rd_T40 y268 x10_3).f0) ((rd_T40 y268 x10_3).f1) ((rd_T40 y268 x10_3).f2) ((rd_T40 y268 x10_3).f3) t278 _ ?side1 ?side2 A39.out).mono ?_
                              (case side1 => repeat (first | exact (Kd.R_reads' HO_8.out).2.2 | (with_reducible refine Kd.C_alloc ?_ _) | (with_reducible refine Kd.C_drewN ?_ _) | (with_reducible refine Kd.C_drew ?_)))
                              (case side2 => exact (Kd.R_reads' HO_8.out).2.1)
                              rintro e w45 ⟨rfl, hb⟩
                              have HS0_ := (hb.cell (World.block_lt_of_cell? _ _ (hHeld.1))).trans (hHeld.1)
                              have HS1_ := (hb.cell (World.block_lt_of_cell? _ _ (hHeld.2.1))).trans (hHeld.2.1)
                              have HS2_ := (hb.cell (World.block_lt_of_cell? _ _ (hHeld.2.2.1))).trans (hHeld.2.2.1)
                              have HS3_ := (hb.cell (World.block_lt_of_cell? _ _ (hHeld.2.2.2.1))).trans (hHeld.2.2.2.1)
                              have HS4_ := (hb.cell (World.block_lt_of_cell? _ _ (hHeld.2.2.2.2.1))).trans (hHeld.2.2.2.2.1)
                              have HS5_ := (hb.cell (World.block_lt_of_cell? _ _ (hHeld.2.2.2.2.2.1))).trans (hHeld.2.2.2.2.2.1)
                              have HS6_ := (hb.cell (World.block_lt_of_cell? _ _ (hHeld.2.2.2.2.2.2.1))).trans (hHeld.2.2.2.2.2.2.1)
                              have HS7_ := (hb.cell (World.block_lt_of_cell? _ _ (hHeld.2.2.2.2.2.2.2))).trans (hHeld.2.2.2.2.2.2.2)
                              refine ⟨_, rfl, ?_⟩
                              have n0_ := Aside0.mk (Kd.Tb_below (by (with_reducible repeat (first | apply Kd.Tb_alloc | apply Kd.Tb_drewN | apply Kd.Tb_drew)); exact HO_5.out) hb)
                              have n1_ := Aside0.mk (Kd.Tv_below (by (with_reducible repeat (first | apply Kd.Tv_alloc | apply Kd.Tv_drewN | apply Kd.Tv_drew)); exact HO_6.out) hb)
                              have n2_ := Aside0.mk (Kd.R_below (by (with_reducible repeat (first | apply Kd.R_alloc | apply Kd.R_drewN | apply Kd.R_drew)); exact HO_8.out) hb)
                              have n3_ := Aside0.mk (Kd.R_below (by (with_reducible repeat (first | apply Kd.R_alloc | apply Kd.R_drewN | apply Kd.R_drew)); exact HO_9.out) hb)
                              have n4_ := Aside0.mk (below_step (by repeat (first | (with_reducible first | exact HB.out | apply below_alloc | apply pw_below_drewN | apply below_drew1) | exact HB.out)) hb)
                              clear HO_5
                              clear HO_6
                              clear HO_8
                              clear HO_9
                              clear HB
                              have HO_5 := n0_
                              have HO_6 := n1_
                              have HO_8 := n2_
                              have HO_9 := n3_
                              have HB := n4_
                              clear n0_ n1_ n2_ n3_ n4_
                              (try clear hb)
                              (try clear hb2)
                              (try clear hk)
                              (try clear hi)
                              refine hK.out _ _ ⟨HS0_, HS1_, HS2_, HS3_, HS4_, HS5_, HS6_, HS7_⟩ (fun hHeld => ?_)
                              clear hK K
                              refine norm_ (a' := ?_) ?_ ?_
                              rotate_left
                              · show Act.put _ (some 61) _ = _
                                simp only [Act.put, List.setIfInBounds_toArray, List.set_cons_zero, List.set_cons_succ, i64_w, i32_w]
                                rfl
                              refine pure_ (i := 12) (N := some 62) (v := ?_) (a' := ?_) #[true, true, true, true, true, true, true, true, true, true, true, true, true, false, false, false, false, false, false] rfl rfl (any_of HT_.out (by kernel_rfl)) (fun _ _ _ h => h) (Or.inl ⟨by rfl, ?_⟩) ?_ ?_
                              rotate_left
                              · intro w'
                                go_simp
                                with_reducible rfl
                              rotate_left
                              · simp only [Act.put, List.setIfInBounds_toArray, List.set_cons_zero, List.set_cons_succ, i64_w, i32_w]
                                rfl
                              refine pure_ (i := 13) (N := some 63) (v := ?_) (a' := ?_) #[true, true, true, true, true, true, true, true, true, true, true, true, true, true, false, false, false, false, false] rfl rfl (any_of HT_.out (by kernel_rfl)) (fun _ _ _ h => h) (Or.inl ⟨by rfl, ?_⟩) ?_ ?_
                              rotate_left
                              · intro w'
                                go_simp
                                with_reducible rfl
                              rotate_left
                              · simp only [Act.put, List.setIfInBounds_toArray, List.set_cons_zero, List.set_cons_succ, i64_w, i32_w]
                                rfl
                              refine pure_ (i := 14) (N := some 64) (v := undef) (a' := ?_) #[true, true, true, true, true, true, true, true, true, true, true, true, true, true, true, false, false, false, false] rfl rfl (any_of HT_.out (by kernel_rfl)) (fun _ _ _ h => h) (Or.inr ⟨by rfl, rfl⟩) ?_ ?_
                              rotate_left
                              · simp only [Act.put, List.setIfInBounds_toArray, List.set_cons_zero, List.set_cons_succ, i64_w, i32_w]
                                rfl
                              refine pure_ (i := 15) (N := some 65) (v := undef) (a' := ?_) #[true, true, true, true, true, true, true, true, true, true, true, true, true, true, true, true, false, false, false] rfl rfl (any_of HT_.out (by kernel_rfl)) (fun _ _ _ h => h) (Or.inr ⟨by rfl, rfl⟩) ?_ ?_
                              rotate_left
                              · simp only [Act.put, List.setIfInBounds_toArray, List.set_cons_zero, List.set_cons_succ, i64_w, i32_w]
                                rfl
                              refine pure_ (i := 16) (N := some 66) (v := undef) (a' := ?_) #[true, true, true, true, true, true, true, true, true, true, true, true, true, true, true, true, true, false, false] rfl rfl (any_of HT_.out (by kernel_rfl)) (fun _ _ _ h => h) (Or.inr ⟨by rfl, rfl⟩) ?_ ?_
                              rotate_left
                              · simp only [Act.put, List.setIfInBounds_toArray, List.set_cons_zero, List.set_cons_succ, i64_w, i32_w]
                                rfl
                              refine pure_ (i := 17) (N := some 67) (v := undef) (a' := ?_) #[true, true, true, true, true, true, true, true, true, true, true, true, true, true, true, true, true, true, false] rfl rfl (any_of HT_.out (by kernel_rfl)) (fun _ _ _ h => h) (Or.inr ⟨by rfl, rfl⟩) ?_ ?_
                              rotate_left
                              · simp only [Act.put, List.setIfInBounds_toArray, List.set_cons_zero, List.set_cons_succ, i64_w, i32_w]
                                rfl
                              refine pure_ (i := 18) (N := some 68) (v := ?_) (a' := ?_) #[true, true, true, true, true, true, true, true, true, true, true, true, true, true, true, true, true, true, true] rfl rfl (any_of HT_.out (by kernel_rfl)) (fun _ _ _ h => h) (Or.inl ⟨by rfl, ?_⟩) ?_ ?_
                              rotate_left
                              · intro w'
                                go_simp
                                with_reducible rfl
                              rotate_left
                              · simp only [Act.put, List.setIfInBounds_toArray, List.set_cons_zero, List.set_cons_succ, i64_w, i32_w]
                                rfl
                              refine done_ (done_of HT_.out (by kernel_rfl)) ?_
                              try go_wp2
                              go_ret
                              exact ⟨by first | rfl | (simp [errW_none, errW_some] <;> rfl) | (simp [*, errW_none, errW_some] <;> rfl), by repeat (first | (with_reducible first | exact HB.out | apply below_alloc | apply pw_below_drewN | apply below_drew1) | exact HB.out)⟩
                            · rw [if_neg c40] at H
                              have c40b0 : (t276 != t278) = false := by simpa using c40
                              (try (have c40b1 : decide (t276 = t278) = true := by simpa using c40))
                              (try (have c40b2 : (t276 == t278) = true := by simpa using c40))
                              clear c40
                              replace H := Option.bind_eq_some_iff.mp H
                              obtain ⟨t279, A460, H⟩ := H
                              replace H : (if t279 = true then (colonnadelaw13_BloomHas.l1 k3 x5_1 x6_1 x7_1 y265 y268 (wrap64 (x10_3 + 1))) else (some false)) = some r := H
                              have A46 := Aside0.mk A460
                              clear A460
                              by_cases c47 : t279 = true
                              · subst c47
                                have H1 : (colonnadelaw13_BloomHas.l1 k3 x5_1 x6_1 x7_1 y265 y268 (wrap64 (x10_3 + 1))) = some r := by rw [if_pos rfl] at H; exact H
                                clear H
                                have H := H1
                                clear H1
                                have H' := Aside0.mk H
                                clear H
                                try go_wp2
                                have n0_ := Aside0.mk (Kd.Tb_drew HO_5.out)
                                have n1_ := Aside0.mk (Kd.Tv_drew HO_6.out)
                                have n2_ := Aside0.mk (Kd.R_drew HO_8.out)
                                have n3_ := Aside0.mk (Kd.R_drew HO_9.out)
                                have n4_ := Aside0.mk (below_drew1 HB.out)
                                clear HO_5
                                clear HO_6
                                clear HO_8
                                clear HO_9
                                clear HB
                                have HO_5 := n0_
                                have HO_6 := n1_
                                have HO_8 := n2_
                                have HO_9 := n3_
                                have HB := n4_
                                clear n0_ n1_ n2_ n3_ n4_
                                have p275 : 0 ≤ (x10_3 : Int) := of_decide_eq_true (by first | (with_reducible assumption) | assumption)
                                have q275 : x10_3 < (x6_1.length : Int) := of_decide_eq_true (by first | (with_reducible assumption) | assumption)
                                obtain ⟨ad275, e275, hx275_0, hx275_1, hx275_2, hx275_3⟩ := at_T40 (Kd.Tv_reads' HO_6.out).2.2 x10_3 p275 q275
                                cases e275
                                replace p275 := eq_true p275
                                replace q275 := eq_true q275
                                obtain ⟨Ao49, co49, eo49⟩ := Kd.R_slice HO_9.out
                                (first | subst eo49 | (injection eo49 with f1_ f2_ f3_; have f4_ := f1_.symm; have f5_ := f3_.symm; clear f1_ f2_ f3_; subst f4_; subst f5_))
                                have p277 : 0 ≤ (x10_3 : Int) := of_decide_eq_true (by first | (with_reducible assumption) | assumption)
                                have q277 : x10_3 < (y268.length : Int) := of_decide_eq_true (by first | (with_reducible assumption) | assumption)
                                obtain ⟨ad277, e277, hx277_0, hx277_1, hx277_2, hx277_3⟩ := at_T40 (Kd.R_reads' HO_9.out).2.2 x10_3 p277 q277
                                cases e277
                                replace p277 := eq_true p277
                                replace q277 := eq_true q277
                                refine start_ (n := 19) (S := fun w' => w'.cell? (ad275.add ((x10_3).toNat * 4)) = some (.int .i64 ((rd_T40 x6_1 x10_3).f0)) ∧ w'.cell? ⟨(ad275.add ((x10_3).toNat * 4)).block, (ad275.add ((x10_3).toNat * 4)).off + 1, none⟩ = some (.int .i64 ((rd_T40 x6_1 x10_3).f1)) ∧ w'.cell? ⟨(ad275.add ((x10_3).toNat * 4)).block, (ad275.add ((x10_3).toNat * 4)).off + 2, none⟩ = some (.float .f64 ((rd_T40 x6_1 x10_3).f2)) ∧ w'.cell? ⟨(ad275.add ((x10_3).toNat * 4)).block, (ad275.add ((x10_3).toNat * 4)).off + 3, none⟩ = some (.string ((rd_T40 x6_1 x10_3).f3)) ∧ w'.cell? (ad277.add ((x10_3).toNat * 4)) = some (.int .i64 ((rd_T40 y268 x10_3).f0)) ∧ w'.cell? ⟨(ad277.add ((x10_3).toNat * 4)).block, (ad277.add ((x10_3).toNat * 4)).off + 1, none⟩ = some (.int .i64 ((rd_T40 y268 x10_3).f1)) ∧ w'.cell? ⟨(ad277.add ((x10_3).toNat * 4)).block, (ad277.add ((x10_3).toNat * 4)).off + 2, none⟩ = some (.float .f64 ((rd_T40 y268 x10_3).f2)) ∧ w'.cell? ⟨(ad277.add ((x10_3).toNat * 4)).block, (ad277.add ((x10_3).toNat * 4)).off + 3, none⟩ = some (.string ((rd_T40 y268 x10_3).f3))) (ds := []) #[false, false, false, false, false, false, false, false, false, false, false, false, false, false, false, false, false, false, false] (by kernel_rfl) rfl rfl ⟨hx275_0, hx275_1, hx275_2, hx275_3, hx277_0, hx277_1, hx277_2, hx277_3⟩ (fun hHeld => ?_); refine with_tabW colonnadelaw13_BloomHas.tab13 colonnadelaw13_BloomHas.bits13 (fun HT_ HW_ => ?_)
                                generalize wr.drew = w48 at HO_5 HO_6 HO_8 HO_9 HB hx275_0 hx275_1 hx275_2 hx275_3 hx277_0 hx277_1 hx277_2 hx277_3 hHeld ⊢
                                refine pure_ (i := 0) (N := some 50) (v := ?_) (a' := ?_) #[true, false, false, false, false, false, false, false, false, false, false, false, false, false, false, false, false, false, false] rfl rfl (any_of HT_.out (by kernel_rfl)) (fun _ _ _ h => h) (Or.inl ⟨by rfl, ?_⟩) ?_ ?_
                                rotate_left
                                · intro w'
                                  go_simp
                                  with_reducible rfl
                                rotate_left
                                · simp only [Act.put, List.setIfInBounds_toArray, List.set_cons_zero, List.set_cons_succ, i64_w, i32_w]
                                  rfl
                                refine pure_ (i := 1) (N := some 51) (v := ?_) (a' := ?_) #[true, true, false, false, false, false, false, false, false, false, false, false, false, false, false, false, false, false, false] rfl rfl (any_of HT_.out (by kernel_rfl)) (fun _ _ _ h => h) (Or.inl ⟨by rfl, ?_⟩) ?_ ?_
                                rotate_left
                                · intro w'
                                  go_simp
                                  with_reducible rfl
                                rotate_left
                                · simp only [Act.put, List.setIfInBounds_toArray, List.set_cons_zero, List.set_cons_succ, i64_w, i32_w]
                                  rfl
                                refine pure_ (i := 2) (N := some 52) (v := ?_) (a' := ?_) #[true, true, true, false, false, false, false, false, false, false, false, false, false, false, false, false, false, false, false] rfl rfl (any_of HT_.out (by kernel_rfl)) (fun _ _ _ h => h) (Or.inl ⟨by rfl, ?_⟩) ?_ ?_
                                rotate_left
                                · intro w'
                                  go_simp
                                  with_reducible rfl
                                rotate_left
                                · simp only [Act.put, List.setIfInBounds_toArray, List.set_cons_zero, List.set_cons_succ, i64_w, i32_w]
                                  rfl
                                refine pure_ (i := 3) (N := some 53) (v := ?_) (a' := ?_) #[true, true, true, true, false, false, false, false, false, false, false, false, false, false, false, false, false, false, false] rfl rfl (any_of HT_.out (by kernel_rfl)) (fun _ _ _ h => h) (Or.inl ⟨by rfl, ?_⟩) ?_ ?_
                                rotate_left
                                · intro w'
                                  go_simp
                                  with_reducible rfl
                                rotate_left
                                · simp only [Act.put, List.setIfInBounds_toArray, List.set_cons_zero, List.set_cons_succ, i64_w, i32_w]
                                  rfl
                                refine pure_ (i := 6) (N := some 56) (v := ?_) (a' := ?_) #[true, true, true, true, false, false, true, false, false, false, false, false, false, false, false, false, false, false, false] rfl rfl (any_of HT_.out (by kernel_rfl)) (fun _ _ _ h => h) (Or.inl ⟨by rfl, ?_⟩) ?_ ?_
                                rotate_left
                                · intro w'
                                  go_simp
                                  with_reducible rfl
                                rotate_left
                                · simp only [Act.put, List.setIfInBounds_toArray, List.set_cons_zero, List.set_cons_succ, i64_w, i32_w]
                                  rfl
                                refine pure_ (i := 7) (N := some 57) (v := ?_) (a' := ?_) #[true, true, true, true, false, false, true, true, false, false, false, false, false, false, false, false, false, false, false] rfl rfl (any_of HT_.out (by kernel_rfl)) (fun _ _ _ h => h) (Or.inl ⟨by rfl, ?_⟩) ?_ ?_
                                rotate_left
                                · intro w'
                                  go_simp
                                  with_reducible rfl
                                rotate_left
                                · simp only [Act.put, List.setIfInBounds_toArray, List.set_cons_zero, List.set_cons_succ, i64_w, i32_w]
                                  rfl
                                refine pure_ (i := 8) (N := some 58) (v := ?_) (a' := ?_) #[true, true, true, true, false, false, true, true, true, false, false, false, false, false, false, false, false, false, false] rfl rfl (any_of HT_.out (by kernel_rfl)) (fun _ _ _ h => h) (Or.inl ⟨by rfl, ?_⟩) ?_ ?_
                                rotate_left
                                · intro w'
                                  go_simp
                                  with_reducible rfl
                                rotate_left
                                · simp only [Act.put, List.setIfInBounds_toArray, List.set_cons_zero, List.set_cons_succ, i64_w, i32_w]
                                  rfl
                                refine pure_ (i := 9) (N := some 59) (v := ?_) (a' := ?_) #[true, true, true, true, false, false, true, true, true, true, false, false, false, false, false, false, false, false, false] rfl rfl (any_of HT_.out (by kernel_rfl)) (fun _ _ _ h => h) (Or.inl ⟨by rfl, ?_⟩) ?_ ?_
                                rotate_left
                                · intro w'
                                  go_simp
                                  with_reducible rfl
                                rotate_left
                                · simp only [Act.put, List.setIfInBounds_toArray, List.set_cons_zero, List.set_cons_succ, i64_w, i32_w]
                                  rfl
                                refine take_ (i := 4) (N := some 54) (v := ?_) (a' := ?_) #[true, true, true, true, true, false, true, true, true, true, false, false, false, false, false, false, false, false, false] rfl rfl (take_ofW HT_.out HW_.out (by kernel_rfl)) (fun _ _ _ h => h) (Or.inl ⟨by rfl, ?_⟩) hHeld ?_ ?_
                                rotate_left
                                · rintro w' ⟨s0, s1, s2, s3, s4, s5, s6, s7⟩
                                  go_simp
                                  with_reducible rfl
                                rotate_left
                                · simp only [Act.put, List.setIfInBounds_toArray, List.set_cons_zero, List.set_cons_succ, i64_w, i32_w]
                                  rfl
                                refine take_ (i := 10) (N := some 60) (v := ?_) (a' := ?_) #[true, true, true, true, true, false, true, true, true, true, true, false, false, false, false, false, false, false, false] rfl rfl (take_ofW HT_.out HW_.out (by kernel_rfl)) (fun _ _ _ h => h) (Or.inl ⟨by rfl, ?_⟩) hHeld ?_ ?_
                                rotate_left
                                · rintro w' ⟨s0, s1, s2, s3, s4, s5, s6, s7⟩
                                  go_simp
                                  with_reducible rfl
                                rotate_left
                                · simp only [Act.put, List.setIfInBounds_toArray, List.set_cons_zero, List.set_cons_succ, i64_w, i32_w]
                                  rfl
                                refine one_ (i := 5) (N := some 55) #[true, true, true, true, true, true, true, true, true, true, true, false, false, false, false, false, false, false, false] rfl rfl (one_of HT_.out (by kernel_rfl)) (by decide) (fun K hK => ?_)
                                refine goes_ Try.func20 (by kernel_rfl) rfl #[.slice Ao12 x5_1.length co12, .agg #[.int .i64 ((rd_T40 x6_1 x10_3).f0), .int .i64 ((rd_T40 x6_1 x10_3).f1), .float .f64 ((rd_T40 x6_1 x10_3).f2), .string ((rd_T40 x6_1 x10_3).f3)]] (by rfl) rfl rfl (by (try simp only [List.map_toArray, List.map_cons, List.map_nil]); first | done | rfl | (simp only [List.length_drop, List.length_take]; rfl)) ?_
                                with_reducible refine (bloom_Has.calls k3 _ _ x5_1 ((rd_T40 x6_1 x10_3).f0) ((rd_T40 x6_1 x10_3).f1) ((rd_T40 x6_1 x10_3).f2) ((rd_T40 x6_1 x10_3).f3) t276 _ ?side1 ?side2 A37.out).mono ?_
                                (case side1 => repeat (first | exact (Kd.Tb_reads' HO_5.out).2.2 | (with_reducible refine Kd.C_alloc ?_ _) | (with_reducible refine Kd.C_drewN ?_ _) | (with_reducible refine Kd.C_drew ?_)))
                                (case side2 => exact (Kd.Tb_reads' HO_5.out).2.1)
                                rintro e w50 ⟨rfl, hb⟩
                                have HS0_ := (hb.cell (World.block_lt_of_cell? _ _ (hHeld.1))).trans (hHeld.1)
                                have HS1_ := (hb.cell (World.block_lt_of_cell? _ _ (hHeld.2.1))).trans (hHeld.2.1)
                                have HS2_ := (hb.cell (World.block_lt_of_cell? _ _ (hHeld.2.2.1))).trans (hHeld.2.2.1)
                                have HS3_ := (hb.cell (World.block_lt_of_cell? _ _ (hHeld.2.2.2.1))).trans (hHeld.2.2.2.1)
                                have HS4_ := (hb.cell (World.block_lt_of_cell? _ _ (hHeld.2.2.2.2.1))).trans (hHeld.2.2.2.2.1)
                                have HS5_ := (hb.cell (World.block_lt_of_cell? _ _ (hHeld.2.2.2.2.2.1))).trans (hHeld.2.2.2.2.2.1)
                                have HS6_ := (hb.cell (World.block_lt_of_cell? _ _ (hHeld.2.2.2.2.2.2.1))).trans (hHeld.2.2.2.2.2.2.1)
                                have HS7_ := (hb.cell (World.block_lt_of_cell? _ _ (hHeld.2.2.2.2.2.2.2))).trans (hHeld.2.2.2.2.2.2.2)
                                refine ⟨_, rfl, ?_⟩
                                have n0_ := Aside0.mk (Kd.Tb_below (by (with_reducible repeat (first | apply Kd.Tb_alloc | apply Kd.Tb_drewN | apply Kd.Tb_drew)); exact HO_5.out) hb)
                                have n1_ := Aside0.mk (Kd.Tv_below (by (with_reducible repeat (first | apply Kd.Tv_alloc | apply Kd.Tv_drewN | apply Kd.Tv_drew)); exact HO_6.out) hb)
                                have n2_ := Aside0.mk (Kd.R_below (by (with_reducible repeat (first | apply Kd.R_alloc | apply Kd.R_drewN | apply Kd.R_drew)); exact HO_8.out) hb)
                                have n3_ := Aside0.mk (Kd.R_below (by (with_reducible repeat (first | apply Kd.R_alloc | apply Kd.R_drewN | apply Kd.R_drew)); exact HO_9.out) hb)
                                have n4_ := Aside0.mk (below_step (by repeat (first | (with_reducible first | exact HB.out | apply below_alloc | apply pw_below_drewN | apply below_drew1) | exact HB.out)) hb)
                                clear HO_5
                                clear HO_6
                                clear HO_8
                                clear HO_9
                                clear HB
                                have HO_5 := n0_
                                have HO_6 := n1_
                                have HO_8 := n2_
                                have HO_9 := n3_
                                have HB := n4_
                                clear n0_ n1_ n2_ n3_ n4_
                                (try clear hb)
                                (try clear hb2)
                                (try clear hk)
                                (try clear hi)
                                obtain ⟨Ao51, co51, eo51⟩ := Kd.R_slice HO_8.out
                                (first | subst eo51 | (injection eo51 with f1_ f2_ f3_; have f4_ := f1_.symm; have f5_ := f3_.symm; clear f1_ f2_ f3_; subst f4_; subst f5_))
                                refine hK.out _ _ ⟨HS0_, HS1_, HS2_, HS3_, HS4_, HS5_, HS6_, HS7_⟩ (fun hHeld => ?_)
                                clear hK K
                                refine norm_ (a' := ?_) ?_ ?_
                                rotate_left
                                · show Act.put _ (some 55) _ = _
                                  simp only [Act.put, List.setIfInBounds_toArray, List.set_cons_zero, List.set_cons_succ, i64_w, i32_w]
                                  rfl
                                refine one_ (i := 11) (N := some 61) #[true, true, true, true, true, true, true, true, true, true, true, true, false, false, false, false, false, false, false] rfl rfl (one_of HT_.out (by kernel_rfl)) (by decide) (fun K hK => ?_)
                                refine goes_ Try.func21 (by kernel_rfl) rfl #[.slice Ao51 y265.length co51, .agg #[.int .i64 ((rd_T40 y268 x10_3).f0), .int .i64 ((rd_T40 y268 x10_3).f1), .float .f64 ((rd_T40 y268 x10_3).f2), .string ((rd_T40 y268 x10_3).f3)]] (by rfl) rfl rfl (by (try simp only [List.map_toArray, List.map_cons, List.map_nil]); first | done | rfl | (simp only [List.length_drop, List.length_take]; rfl)) ?_
                                with_reducible refine (colonnaderef13_Has.calls k3 _ _ y265 ((rd_T40 y268 x10_3).f0) ((rd_T40 y268 x10_3).f1) ((rd_T40 y268 x10_3).f2) ((rd_T40 y268 x10_3).f3) t278 _ ?side1 ?side2 A39.out).mono ?_
                                (case side1 => repeat (first | exact (Kd.R_reads' HO_8.out).2.2 | (with_reducible refine Kd.C_alloc ?_ _) | (with_reducible refine Kd.C_drewN ?_ _) | (with_reducible refine Kd.C_drew ?_)))
                                (case side2 => exact (Kd.R_reads' HO_8.out).2.1)
                                rintro e w52 ⟨rfl, hb⟩
                                have HS0_ := (hb.cell (World.block_lt_of_cell? _ _ (hHeld.1))).trans (hHeld.1)
                                have HS1_ := (hb.cell (World.block_lt_of_cell? _ _ (hHeld.2.1))).trans (hHeld.2.1)
                                have HS2_ := (hb.cell (World.block_lt_of_cell? _ _ (hHeld.2.2.1))).trans (hHeld.2.2.1)
                                have HS3_ := (hb.cell (World.block_lt_of_cell? _ _ (hHeld.2.2.2.1))).trans (hHeld.2.2.2.1)
                                have HS4_ := (hb.cell (World.block_lt_of_cell? _ _ (hHeld.2.2.2.2.1))).trans (hHeld.2.2.2.2.1)
                                have HS5_ := (hb.cell (World.block_lt_of_cell? _ _ (hHeld.2.2.2.2.2.1))).trans (hHeld.2.2.2.2.2.1)
                                have HS6_ := (hb.cell (World.block_lt_of_cell? _ _ (hHeld.2.2.2.2.2.2.1))).trans (hHeld.2.2.2.2.2.2.1)
                                have HS7_ := (hb.cell (World.block_lt_of_cell? _ _ (hHeld.2.2.2.2.2.2.2))).trans (hHeld.2.2.2.2.2.2.2)
                                refine ⟨_, rfl, ?_⟩
                                have n0_ := Aside0.mk (Kd.Tb_below (by (with_reducible repeat (first | apply Kd.Tb_alloc | apply Kd.Tb_drewN | apply Kd.Tb_drew)); exact HO_5.out) hb)
                                have n1_ := Aside0.mk (Kd.Tv_below (by (with_reducible repeat (first | apply Kd.Tv_alloc | apply Kd.Tv_drewN | apply Kd.Tv_drew)); exact HO_6.out) hb)
                                have n2_ := Aside0.mk (Kd.R_below (by (with_reducible repeat (first | apply Kd.R_alloc | apply Kd.R_drewN | apply Kd.R_drew)); exact HO_8.out) hb)
                                have n3_ := Aside0.mk (Kd.R_below (by (with_reducible repeat (first | apply Kd.R_alloc | apply Kd.R_drewN | apply Kd.R_drew)); exact HO_9.out) hb)
                                have n4_ := Aside0.mk (below_step (by repeat (first | (with_reducible first | exact HB.out | apply below_alloc | apply pw_below_drewN | apply below_drew1) | exact HB.out)) hb)
                                clear HO_5
                                clear HO_6
                                clear HO_8
                                clear HO_9
                                clear HB
                                have HO_5 := n0_
                                have HO_6 := n1_
                                have HO_8 := n2_
                                have HO_9 := n3_
                                have HB := n4_
                                clear n0_ n1_ n2_ n3_ n4_
                                (try clear hb)
                                (try clear hb2)
                                (try clear hk)
                                (try clear hi)
                                refine hK.out _ _ ⟨HS0_, HS1_, HS2_, HS3_, HS4_, HS5_, HS6_, HS7_⟩ (fun hHeld => ?_)
                                clear hK K
                                refine norm_ (a' := ?_) ?_ ?_
                                rotate_left
                                · show Act.put _ (some 61) _ = _
                                  simp only [Act.put, List.setIfInBounds_toArray, List.set_cons_zero, List.set_cons_succ, i64_w, i32_w]
                                  rfl
                                refine pure_ (i := 12) (N := some 62) (v := ?_) (a' := ?_) #[true, true, true, true, true, true, true, true, true, true, true, true, true, false, false, false, false, false, false] rfl rfl (any_of HT_.out (by kernel_rfl)) (fun _ _ _ h => h) (Or.inl ⟨by rfl, ?_⟩) ?_ ?_
                                rotate_left
                                · intro w'
                                  go_simp
                                  with_reducible rfl
                                rotate_left
                                · simp only [Act.put, List.setIfInBounds_toArray, List.set_cons_zero, List.set_cons_succ, i64_w, i32_w]
                                  rfl
                                refine pure_ (i := 13) (N := some 63) (v := ?_) (a' := ?_) #[true, true, true, true, true, true, true, true, true, true, true, true, true, true, false, false, false, false, false] rfl rfl (any_of HT_.out (by kernel_rfl)) (fun _ _ _ h => h) (Or.inl ⟨by rfl, ?_⟩) ?_ ?_
                                rotate_left
                                · intro w'
                                  go_simp
                                  with_reducible rfl
                                rotate_left
                                · simp only [Act.put, List.setIfInBounds_toArray, List.set_cons_zero, List.set_cons_succ, i64_w, i32_w]
                                  rfl
                                refine pure_ (i := 14) (N := some 64) (v := ?_) (a' := ?_) #[true, true, true, true, true, true, true, true, true, true, true, true, true, true, true, false, false, false, false] rfl rfl (any_of HT_.out (by kernel_rfl)) (fun _ _ _ h => h) (Or.inl ⟨by rfl, ?_⟩) ?_ ?_
                                rotate_left
                                · intro w'
                                  go_simp
                                  with_reducible rfl
                                rotate_left
                                · simp only [Act.put, List.setIfInBounds_toArray, List.set_cons_zero, List.set_cons_succ, i64_w, i32_w]
                                  rfl
                                refine pure_ (i := 15) (N := some 65) (v := ?_) (a' := ?_) #[true, true, true, true, true, true, true, true, true, true, true, true, true, true, true, true, false, false, false] rfl rfl (any_of HT_.out (by kernel_rfl)) (fun _ _ _ h => h) (Or.inl ⟨by rfl, ?_⟩) ?_ ?_
                                rotate_left
                                · intro w'
                                  go_simp
                                  with_reducible rfl
                                rotate_left
                                · simp only [Act.put, List.setIfInBounds_toArray, List.set_cons_zero, List.set_cons_succ, i64_w, i32_w]
                                  rfl
                                refine one_ (i := 16) (N := some 66) #[true, true, true, true, true, true, true, true, true, true, true, true, true, true, true, true, true, false, false] rfl rfl (one_of HT_.out (by kernel_rfl)) (by decide) (fun K hK => ?_)
                                refine goes_ Try.func13 (by kernel_rfl) rfl #[.slice Ao12 x5_1.length co12, .slice Ao51 y265.length co51] (by rfl) rfl rfl (by (try simp only [List.map_toArray, List.map_cons, List.map_nil]); first | done | rfl | (simp only [List.length_drop, List.length_take]; rfl)) ?_
                                with_reducible refine (colonnadelaw13_kept.calls _ _ x5_1 _ _ y265 true _ ?side1 ?side2 ?side3 ?side4 A46.out).mono ?_
                                (case side1 => exact (Kd.Tb_readsT (by (with_reducible repeat (first | apply Kd.Tb_alloc | apply Kd.Tb_drewN | apply Kd.Tb_drew)); exact HO_5.out)).2.2)
                                (case side2 => exact (Kd.Tb_readsT HO_5.out).2.1)
                                (case side3 => repeat (first | exact (Kd.R_reads' HO_8.out).2.2 | (with_reducible refine Kd.C_alloc ?_ _) | (with_reducible refine Kd.C_drewN ?_ _) | (with_reducible refine Kd.C_drew ?_)))
                                (case side4 => exact (Kd.R_reads' HO_8.out).2.1)
                                rintro e w' ⟨rfl, ⟨nd, rfl⟩⟩
                                refine ⟨_, rfl, ?_⟩
                                refine hK.out _ _ ⟨hHeld.1, hHeld.2.1, hHeld.2.2.1, hHeld.2.2.2.1, hHeld.2.2.2.2.1, hHeld.2.2.2.2.2.1, hHeld.2.2.2.2.2.2.1, hHeld.2.2.2.2.2.2.2⟩ (fun hHeld => ?_)
                                clear hK K
                                refine norm_ (a' := ?_) ?_ ?_
                                rotate_left
                                · show Act.put _ (some 66) _ = _
                                  simp only [Act.put, List.setIfInBounds_toArray, List.set_cons_zero, List.set_cons_succ, i64_w, i32_w]
                                  rfl
                                refine pure_ (i := 17) (N := some 67) (v := ?_) (a' := ?_) #[true, true, true, true, true, true, true, true, true, true, true, true, true, true, true, true, true, true, false] rfl rfl (any_of HT_.out (by kernel_rfl)) (fun _ _ _ h => h) (Or.inl ⟨by rfl, ?_⟩) ?_ ?_
                                rotate_left
                                · intro w'
                                  go_simp
                                  with_reducible rfl
                                rotate_left
                                · simp only [Act.put, List.setIfInBounds_toArray, List.set_cons_zero, List.set_cons_succ, i64_w, i32_w]
                                  rfl
                                refine pure_ (i := 18) (N := some 68) (v := ?_) (a' := ?_) #[true, true, true, true, true, true, true, true, true, true, true, true, true, true, true, true, true, true, true] rfl rfl (any_of HT_.out (by kernel_rfl)) (fun _ _ _ h => h) (Or.inl ⟨by rfl, ?_⟩) ?_ ?_
                                rotate_left
                                · intro w'
                                  go_simp
                                  with_reducible rfl
                                rotate_left
                                · simp only [Act.put, List.setIfInBounds_toArray, List.set_cons_zero, List.set_cons_succ, i64_w, i32_w]
                                  rfl
                                refine done_ (done_of HT_.out (by kernel_rfl)) ?_
                                try go_wp2
                                go_roundg k3
                                case measure => have := HK1.out; have := HJ9.out; have := HK3.out; omega
                                case rel => exact ⟨(wrap64 (x10_3 + 1)), (by first | rfl | (simp; done) | (simp [*]; done)), H', ⟨by have := HK1.out; have := HJ9.out; have := HK3.out; omega⟩, ⟨by (with_reducible repeat (first | apply Kd.Tb_alloc | apply Kd.Tb_drewN | apply Kd.Tb_drew)); exact HO_5.out⟩, ⟨by (with_reducible repeat (first | apply Kd.Tv_alloc | apply Kd.Tv_drewN | apply Kd.Tv_drew)); exact HO_6.out⟩, ⟨by (with_reducible repeat (first | apply Kd.R_alloc | apply Kd.R_drewN | apply Kd.R_drew)); exact HO_8.out⟩, ⟨by (with_reducible repeat (first | apply Kd.R_alloc | apply Kd.R_drewN | apply Kd.R_drew)); exact HO_9.out⟩, ⟨by repeat (first | (with_reducible first | exact HB.out | apply below_alloc | apply pw_below_drewN | apply below_drew1) | exact HB.out)⟩⟩
                              · replace c47 := Bool.eq_false_iff.mpr c47
                                subst c47
                                have H1 : (some false) = some r := by rw [if_neg (show ¬ (false = true) by decide)] at H; exact H
                                clear H
                                have H := H1
                                clear H1
                                obtain rfl := Option.some.inj H
                                try go_wp2
                                have n0_ := Aside0.mk (Kd.Tb_drew HO_5.out)
                                have n1_ := Aside0.mk (Kd.Tv_drew HO_6.out)
                                have n2_ := Aside0.mk (Kd.R_drew HO_8.out)
                                have n3_ := Aside0.mk (Kd.R_drew HO_9.out)
                                have n4_ := Aside0.mk (below_drew1 HB.out)
                                clear HO_5
                                clear HO_6
                                clear HO_8
                                clear HO_9
                                clear HB
                                have HO_5 := n0_
                                have HO_6 := n1_
                                have HO_8 := n2_
                                have HO_9 := n3_
                                have HB := n4_
                                clear n0_ n1_ n2_ n3_ n4_
                                have p275 : 0 ≤ (x10_3 : Int) := of_decide_eq_true (by first | (with_reducible assumption) | assumption)
                                have q275 : x10_3 < (x6_1.length : Int) := of_decide_eq_true (by first | (with_reducible assumption) | assumption)
                                obtain ⟨ad275, e275, hx275_0, hx275_1, hx275_2, hx275_3⟩ := at_T40 (Kd.Tv_reads' HO_6.out).2.2 x10_3 p275 q275
                                cases e275
                                replace p275 := eq_true p275
                                replace q275 := eq_true q275
                                obtain ⟨Ao54, co54, eo54⟩ := Kd.R_slice HO_9.out
                                (first | subst eo54 | (injection eo54 with f1_ f2_ f3_; have f4_ := f1_.symm; have f5_ := f3_.symm; clear f1_ f2_ f3_; subst f4_; subst f5_))
                                have p277 : 0 ≤ (x10_3 : Int) := of_decide_eq_true (by first | (with_reducible assumption) | assumption)
                                have q277 : x10_3 < (y268.length : Int) := of_decide_eq_true (by first | (with_reducible assumption) | assumption)
                                obtain ⟨ad277, e277, hx277_0, hx277_1, hx277_2, hx277_3⟩ := at_T40 (Kd.R_reads' HO_9.out).2.2 x10_3 p277 q277
                                cases e277
                                replace p277 := eq_true p277
                                replace q277 := eq_true q277
                                refine start_ (n := 19) (S := fun w' => w'.cell? (ad275.add ((x10_3).toNat * 4)) = some (.int .i64 ((rd_T40 x6_1 x10_3).f0)) ∧ w'.cell? ⟨(ad275.add ((x10_3).toNat * 4)).block, (ad275.add ((x10_3).toNat * 4)).off + 1, none⟩ = some (.int .i64 ((rd_T40 x6_1 x10_3).f1)) ∧ w'.cell? ⟨(ad275.add ((x10_3).toNat * 4)).block, (ad275.add ((x10_3).toNat * 4)).off + 2, none⟩ = some (.float .f64 ((rd_T40 x6_1 x10_3).f2)) ∧ w'.cell? ⟨(ad275.add ((x10_3).toNat * 4)).block, (ad275.add ((x10_3).toNat * 4)).off + 3, none⟩ = some (.string ((rd_T40 x6_1 x10_3).f3)) ∧ w'.cell? (ad277.add ((x10_3).toNat * 4)) = some (.int .i64 ((rd_T40 y268 x10_3).f0)) ∧ w'.cell? ⟨(ad277.add ((x10_3).toNat * 4)).block, (ad277.add ((x10_3).toNat * 4)).off + 1, none⟩ = some (.int .i64 ((rd_T40 y268 x10_3).f1)) ∧ w'.cell? ⟨(ad277.add ((x10_3).toNat * 4)).block, (ad277.add ((x10_3).toNat * 4)).off + 2, none⟩ = some (.float .f64 ((rd_T40 y268 x10_3).f2)) ∧ w'.cell? ⟨(ad277.add ((x10_3).toNat * 4)).block, (ad277.add ((x10_3).toNat * 4)).off + 3, none⟩ = some (.string ((rd_T40 y268 x10_3).f3))) (ds := []) #[false, false, false, false, false, false, false, false, false, false, false, false, false, false, false, false, false, false, false] (by kernel_rfl) rfl rfl ⟨hx275_0, hx275_1, hx275_2, hx275_3, hx277_0, hx277_1, hx277_2, hx277_3⟩ (fun hHeld => ?_); refine with_tabW colonnadelaw13_BloomHas.tab13 colonnadelaw13_BloomHas.bits13 (fun HT_ HW_ => ?_)
                                generalize wr.drew = w53 at HO_5 HO_6 HO_8 HO_9 HB hx275_0 hx275_1 hx275_2 hx275_3 hx277_0 hx277_1 hx277_2 hx277_3 hHeld ⊢
                                refine pure_ (i := 0) (N := some 50) (v := ?_) (a' := ?_) #[true, false, false, false, false, false, false, false, false, false, false, false, false, false, false, false, false, false, false] rfl rfl (any_of HT_.out (by kernel_rfl)) (fun _ _ _ h => h) (Or.inl ⟨by rfl, ?_⟩) ?_ ?_
                                rotate_left
                                · intro w'
                                  go_simp
                                  with_reducible rfl
                                rotate_left
                                · simp only [Act.put, List.setIfInBounds_toArray, List.set_cons_zero, List.set_cons_succ, i64_w, i32_w]
                                  rfl
                                refine pure_ (i := 1) (N := some 51) (v := ?_) (a' := ?_) #[true, true, false, false, false, false, false, false, false, false, false, false, false, false, false, false, false, false, false] rfl rfl (any_of HT_.out (by kernel_rfl)) (fun _ _ _ h => h) (Or.inl ⟨by rfl, ?_⟩) ?_ ?_
                                rotate_left
                                · intro w'
                                  go_simp
                                  with_reducible rfl
                                rotate_left
                                · simp only [Act.put, List.setIfInBounds_toArray, List.set_cons_zero, List.set_cons_succ, i64_w, i32_w]
                                  rfl
                                refine pure_ (i := 2) (N := some 52) (v := ?_) (a' := ?_) #[true, true, true, false, false, false, false, false, false, false, false, false, false, false, false, false, false, false, false] rfl rfl (any_of HT_.out (by kernel_rfl)) (fun _ _ _ h => h) (Or.inl ⟨by rfl, ?_⟩) ?_ ?_
                                rotate_left
                                · intro w'
                                  go_simp
                                  with_reducible rfl
                                rotate_left
                                · simp only [Act.put, List.setIfInBounds_toArray, List.set_cons_zero, List.set_cons_succ, i64_w, i32_w]
                                  rfl
                                refine pure_ (i := 3) (N := some 53) (v := ?_) (a' := ?_) #[true, true, true, true, false, false, false, false, false, false, false, false, false, false, false, false, false, false, false] rfl rfl (any_of HT_.out (by kernel_rfl)) (fun _ _ _ h => h) (Or.inl ⟨by rfl, ?_⟩) ?_ ?_
                                rotate_left
                                · intro w'
                                  go_simp
                                  with_reducible rfl
                                rotate_left
                                · simp only [Act.put, List.setIfInBounds_toArray, List.set_cons_zero, List.set_cons_succ, i64_w, i32_w]
                                  rfl
                                refine pure_ (i := 6) (N := some 56) (v := ?_) (a' := ?_) #[true, true, true, true, false, false, true, false, false, false, false, false, false, false, false, false, false, false, false] rfl rfl (any_of HT_.out (by kernel_rfl)) (fun _ _ _ h => h) (Or.inl ⟨by rfl, ?_⟩) ?_ ?_
                                rotate_left
                                · intro w'
                                  go_simp
                                  with_reducible rfl
                                rotate_left
                                · simp only [Act.put, List.setIfInBounds_toArray, List.set_cons_zero, List.set_cons_succ, i64_w, i32_w]
                                  rfl
                                refine pure_ (i := 7) (N := some 57) (v := ?_) (a' := ?_) #[true, true, true, true, false, false, true, true, false, false, false, false, false, false, false, false, false, false, false] rfl rfl (any_of HT_.out (by kernel_rfl)) (fun _ _ _ h => h) (Or.inl ⟨by rfl, ?_⟩) ?_ ?_
                                rotate_left
                                · intro w'
                                  go_simp
                                  with_reducible rfl
                                rotate_left
                                · simp only [Act.put, List.setIfInBounds_toArray, List.set_cons_zero, List.set_cons_succ, i64_w, i32_w]
                                  rfl
                                refine pure_ (i := 8) (N := some 58) (v := ?_) (a' := ?_) #[true, true, true, true, false, false, true, true, true, false, false, false, false, false, false, false, false, false, false] rfl rfl (any_of HT_.out (by kernel_rfl)) (fun _ _ _ h => h) (Or.inl ⟨by rfl, ?_⟩) ?_ ?_
                                rotate_left
                                · intro w'
                                  go_simp
                                  with_reducible rfl
                                rotate_left
                                · simp only [Act.put, List.setIfInBounds_toArray, List.set_cons_zero, List.set_cons_succ, i64_w, i32_w]
                                  rfl
                                refine pure_ (i := 9) (N := some 59) (v := ?_) (a' := ?_) #[true, true, true, true, false, false, true, true, true, true, false, false, false, false, false, false, false, false, false] rfl rfl (any_of HT_.out (by kernel_rfl)) (fun _ _ _ h => h) (Or.inl ⟨by rfl, ?_⟩) ?_ ?_
                                rotate_left
                                · intro w'
                                  go_simp
                                  with_reducible rfl
                                rotate_left
                                · simp only [Act.put, List.setIfInBounds_toArray, List.set_cons_zero, List.set_cons_succ, i64_w, i32_w]
                                  rfl
                                refine take_ (i := 4) (N := some 54) (v := ?_) (a' := ?_) #[true, true, true, true, true, false, true, true, true, true, false, false, false, false, false, false, false, false, false] rfl rfl (take_ofW HT_.out HW_.out (by kernel_rfl)) (fun _ _ _ h => h) (Or.inl ⟨by rfl, ?_⟩) hHeld ?_ ?_
                                rotate_left
                                · rintro w' ⟨s0, s1, s2, s3, s4, s5, s6, s7⟩
                                  go_simp
                                  with_reducible rfl
                                rotate_left
                                · simp only [Act.put, List.setIfInBounds_toArray, List.set_cons_zero, List.set_cons_succ, i64_w, i32_w]
                                  rfl
                                refine take_ (i := 10) (N := some 60) (v := ?_) (a' := ?_) #[true, true, true, true, true, false, true, true, true, true, true, false, false, false, false, false, false, false, false] rfl rfl (take_ofW HT_.out HW_.out (by kernel_rfl)) (fun _ _ _ h => h) (Or.inl ⟨by rfl, ?_⟩) hHeld ?_ ?_
                                rotate_left
                                · rintro w' ⟨s0, s1, s2, s3, s4, s5, s6, s7⟩
                                  go_simp
                                  with_reducible rfl
                                rotate_left
                                · simp only [Act.put, List.setIfInBounds_toArray, List.set_cons_zero, List.set_cons_succ, i64_w, i32_w]
                                  rfl
                                refine one_ (i := 5) (N := some 55) #[true, true, true, true, true, true, true, true, true, true, true, false, false, false, false, false, false, false, false] rfl rfl (one_of HT_.out (by kernel_rfl)) (by decide) (fun K hK => ?_)
                                refine goes_ Try.func20 (by kernel_rfl) rfl #[.slice Ao12 x5_1.length co12, .agg #[.int .i64 ((rd_T40 x6_1 x10_3).f0), .int .i64 ((rd_T40 x6_1 x10_3).f1), .float .f64 ((rd_T40 x6_1 x10_3).f2), .string ((rd_T40 x6_1 x10_3).f3)]] (by rfl) rfl rfl (by (try simp only [List.map_toArray, List.map_cons, List.map_nil]); first | done | rfl | (simp only [List.length_drop, List.length_take]; rfl)) ?_
                                with_reducible refine (bloom_Has.calls k3 _ _ x5_1 ((rd_T40 x6_1 x10_3).f0) ((rd_T40 x6_1 x10_3).f1) ((rd_T40 x6_1 x10_3).f2) ((rd_T40 x6_1 x10_3).f3) t276 _ ?side1 ?side2 A37.out).mono ?_
                                (case side1 => repeat (first | exact (Kd.Tb_reads' HO_5.out).2.2 | (with_reducible refine Kd.C_alloc ?_ _) | (with_reducible refine Kd.C_drewN ?_ _) | (with_reducible refine Kd.C_drew ?_)))
                                (case side2 => exact (Kd.Tb_reads' HO_5.out).2.1)
                                rintro e w55 ⟨rfl, hb⟩
                                have HS0_ := (hb.cell (World.block_lt_of_cell? _ _ (hHeld.1))).trans (hHeld.1)
                                have HS1_ := (hb.cell (World.block_lt_of_cell? _ _ (hHeld.2.1))).trans (hHeld.2.1)
                                have HS2_ := (hb.cell (World.block_lt_of_cell? _ _ (hHeld.2.2.1))).trans (hHeld.2.2.1)
                                have HS3_ := (hb.cell (World.block_lt_of_cell? _ _ (hHeld.2.2.2.1))).trans (hHeld.2.2.2.1)
                                have HS4_ := (hb.cell (World.block_lt_of_cell? _ _ (hHeld.2.2.2.2.1))).trans (hHeld.2.2.2.2.1)
                                have HS5_ := (hb.cell (World.block_lt_of_cell? _ _ (hHeld.2.2.2.2.2.1))).trans (hHeld.2.2.2.2.2.1)
                                have HS6_ := (hb.cell (World.block_lt_of_cell? _ _ (hHeld.2.2.2.2.2.2.1))).trans (hHeld.2.2.2.2.2.2.1)
                                have HS7_ := (hb.cell (World.block_lt_of_cell? _ _ (hHeld.2.2.2.2.2.2.2))).trans (hHeld.2.2.2.2.2.2.2)
                                refine ⟨_, rfl, ?_⟩
                                have n0_ := Aside0.mk (Kd.Tb_below (by (with_reducible repeat (first | apply Kd.Tb_alloc | apply Kd.Tb_drewN | apply Kd.Tb_drew)); exact HO_5.out) hb)
                                have n1_ := Aside0.mk (Kd.Tv_below (by (with_reducible repeat (first | apply Kd.Tv_alloc | apply Kd.Tv_drewN | apply Kd.Tv_drew)); exact HO_6.out) hb)
                                have n2_ := Aside0.mk (Kd.R_below (by (with_reducible repeat (first | apply Kd.R_alloc | apply Kd.R_drewN | apply Kd.R_drew)); exact HO_8.out) hb)
                                have n3_ := Aside0.mk (Kd.R_below (by (with_reducible repeat (first | apply Kd.R_alloc | apply Kd.R_drewN | apply Kd.R_drew)); exact HO_9.out) hb)
                                have n4_ := Aside0.mk (below_step (by repeat (first | (with_reducible first | exact HB.out | apply below_alloc | apply pw_below_drewN | apply below_drew1) | exact HB.out)) hb)
                                clear HO_5
                                clear HO_6
                                clear HO_8
                                clear HO_9
                                clear HB
                                have HO_5 := n0_
                                have HO_6 := n1_
                                have HO_8 := n2_
                                have HO_9 := n3_
                                have HB := n4_
                                clear n0_ n1_ n2_ n3_ n4_
                                (try clear hb)
                                (try clear hb2)
                                (try clear hk)
                                (try clear hi)
                                obtain ⟨Ao56, co56, eo56⟩ := Kd.R_slice HO_8.out
                                (first | subst eo56 | (injection eo56 with f1_ f2_ f3_; have f4_ := f1_.symm; have f5_ := f3_.symm; clear f1_ f2_ f3_; subst f4_; subst f5_))
                                refine hK.out _ _ ⟨HS0_, HS1_, HS2_, HS3_, HS4_, HS5_, HS6_, HS7_⟩ (fun hHeld => ?_)
                                clear hK K
                                refine norm_ (a' := ?_) ?_ ?_
                                rotate_left
                                · show Act.put _ (some 55) _ = _
                                  simp only [Act.put, List.setIfInBounds_toArray, List.set_cons_zero, List.set_cons_succ, i64_w, i32_w]
                                  rfl
                                refine one_ (i := 11) (N := some 61) #[true, true, true, true, true, true, true, true, true, true, true, true, false, false, false, false, false, false, false] rfl rfl (one_of HT_.out (by kernel_rfl)) (by decide) (fun K hK => ?_)
                                refine goes_ Try.func21 (by kernel_rfl) rfl #[.slice Ao56 y265.length co56, .agg #[.int .i64 ((rd_T40 y268 x10_3).f0), .int .i64 ((rd_T40 y268 x10_3).f1), .float .f64 ((rd_T40 y268 x10_3).f2), .string ((rd_T40 y268 x10_3).f3)]] (by rfl) rfl rfl (by (try simp only [List.map_toArray, List.map_cons, List.map_nil]); first | done | rfl | (simp only [List.length_drop, List.length_take]; rfl)) ?_
                                with_reducible refine (colonnaderef13_Has.calls k3 _ _ y265 ((rd_T40 y268 x10_3).f0) ((rd_T40 y268 x10_3).f1) ((rd_T40 y268 x10_3).f2) ((rd_T40 y268 x10_3).f3) t278 _ ?side1 ?side2 A39.out).mono ?_
                                (case side1 => repeat (first | exact (Kd.R_reads' HO_8.out).2.2 | (with_reducible refine Kd.C_alloc ?_ _) | (with_reducible refine Kd.C_drewN ?_ _) | (with_reducible refine Kd.C_drew ?_)))
                                (case side2 => exact (Kd.R_reads' HO_8.out).2.1)
                                rintro e w57 ⟨rfl, hb⟩
                                have HS0_ := (hb.cell (World.block_lt_of_cell? _ _ (hHeld.1))).trans (hHeld.1)
                                have HS1_ := (hb.cell (World.block_lt_of_cell? _ _ (hHeld.2.1))).trans (hHeld.2.1)
                                have HS2_ := (hb.cell (World.block_lt_of_cell? _ _ (hHeld.2.2.1))).trans (hHeld.2.2.1)
                                have HS3_ := (hb.cell (World.block_lt_of_cell? _ _ (hHeld.2.2.2.1))).trans (hHeld.2.2.2.1)
                                have HS4_ := (hb.cell (World.block_lt_of_cell? _ _ (hHeld.2.2.2.2.1))).trans (hHeld.2.2.2.2.1)
                                have HS5_ := (hb.cell (World.block_lt_of_cell? _ _ (hHeld.2.2.2.2.2.1))).trans (hHeld.2.2.2.2.2.1)
                                have HS6_ := (hb.cell (World.block_lt_of_cell? _ _ (hHeld.2.2.2.2.2.2.1))).trans (hHeld.2.2.2.2.2.2.1)
                                have HS7_ := (hb.cell (World.block_lt_of_cell? _ _ (hHeld.2.2.2.2.2.2.2))).trans (hHeld.2.2.2.2.2.2.2)
                                refine ⟨_, rfl, ?_⟩
                                have n0_ := Aside0.mk (Kd.Tb_below (by (with_reducible repeat (first | apply Kd.Tb_alloc | apply Kd.Tb_drewN | apply Kd.Tb_drew)); exact HO_5.out) hb)
                                have n1_ := Aside0.mk (Kd.Tv_below (by (with_reducible repeat (first | apply Kd.Tv_alloc | apply Kd.Tv_drewN | apply Kd.Tv_drew)); exact HO_6.out) hb)
                                have n2_ := Aside0.mk (Kd.R_below (by (with_reducible repeat (first | apply Kd.R_alloc | apply Kd.R_drewN | apply Kd.R_drew)); exact HO_8.out) hb)
                                have n3_ := Aside0.mk (Kd.R_below (by (with_reducible repeat (first | apply Kd.R_alloc | apply Kd.R_drewN | apply Kd.R_drew)); exact HO_9.out) hb)
                                have n4_ := Aside0.mk (below_step (by repeat (first | (with_reducible first | exact HB.out | apply below_alloc | apply pw_below_drewN | apply below_drew1) | exact HB.out)) hb)
                                clear HO_5
                                clear HO_6
                                clear HO_8
                                clear HO_9
                                clear HB
                                have HO_5 := n0_
                                have HO_6 := n1_
                                have HO_8 := n2_
                                have HO_9 := n3_
                                have HB := n4_
                                clear n0_ n1_ n2_ n3_ n4_
                                (try clear hb)
                                (try clear hb2)
                                (try clear hk)
                                (try clear hi)
                                refine hK.out _ _ ⟨HS0_, HS1_, HS2_, HS3_, HS4_, HS5_, HS6_, HS7_⟩ (fun hHeld => ?_)
                                clear hK K
                                refine norm_ (a' := ?_) ?_ ?_
                                rotate_left
                                · show Act.put _ (some 61) _ = _
                                  simp only [Act.put, List.setIfInBounds_toArray, List.set_cons_zero, List.set_cons_succ, i64_w, i32_w]
                                  rfl
                                refine pure_ (i := 12) (N := some 62) (v := ?_) (a' := ?_) #[true, true, true, true, true, true, true, true, true, true, true, true, true, false, false, false, false, false, false] rfl rfl (any_of HT_.out (by kernel_rfl)) (fun _ _ _ h => h) (Or.inl ⟨by rfl, ?_⟩) ?_ ?_
                                rotate_left
                                · intro w'
                                  go_simp
                                  with_reducible rfl
                                rotate_left
                                · simp only [Act.put, List.setIfInBounds_toArray, List.set_cons_zero, List.set_cons_succ, i64_w, i32_w]
                                  rfl
                                refine pure_ (i := 13) (N := some 63) (v := ?_) (a' := ?_) #[true, true, true, true, true, true, true, true, true, true, true, true, true, true, false, false, false, false, false] rfl rfl (any_of HT_.out (by kernel_rfl)) (fun _ _ _ h => h) (Or.inl ⟨by rfl, ?_⟩) ?_ ?_
                                rotate_left
                                · intro w'
                                  go_simp
                                  with_reducible rfl
                                rotate_left
                                · simp only [Act.put, List.setIfInBounds_toArray, List.set_cons_zero, List.set_cons_succ, i64_w, i32_w]
                                  rfl
                                refine pure_ (i := 14) (N := some 64) (v := ?_) (a' := ?_) #[true, true, true, true, true, true, true, true, true, true, true, true, true, true, true, false, false, false, false] rfl rfl (any_of HT_.out (by kernel_rfl)) (fun _ _ _ h => h) (Or.inl ⟨by rfl, ?_⟩) ?_ ?_
                                rotate_left
                                · intro w'
                                  go_simp
                                  with_reducible rfl
                                rotate_left
                                · simp only [Act.put, List.setIfInBounds_toArray, List.set_cons_zero, List.set_cons_succ, i64_w, i32_w]
                                  rfl
                                refine pure_ (i := 15) (N := some 65) (v := ?_) (a' := ?_) #[true, true, true, true, true, true, true, true, true, true, true, true, true, true, true, true, false, false, false] rfl rfl (any_of HT_.out (by kernel_rfl)) (fun _ _ _ h => h) (Or.inl ⟨by rfl, ?_⟩) ?_ ?_
                                rotate_left
                                · intro w'
                                  go_simp
                                  with_reducible rfl
                                rotate_left
                                · simp only [Act.put, List.setIfInBounds_toArray, List.set_cons_zero, List.set_cons_succ, i64_w, i32_w]
                                  rfl
                                refine one_ (i := 16) (N := some 66) #[true, true, true, true, true, true, true, true, true, true, true, true, true, true, true, true, true, false, false] rfl rfl (one_of HT_.out (by kernel_rfl)) (by decide) (fun K hK => ?_)
                                refine goes_ Try.func13 (by kernel_rfl) rfl #[.slice Ao12 x5_1.length co12, .slice Ao56 y265.length co56] (by rfl) rfl rfl (by (try simp only [List.map_toArray, List.map_cons, List.map_nil]); first | done | rfl | (simp only [List.length_drop, List.length_take]; rfl)) ?_
                                with_reducible refine (colonnadelaw13_kept.calls _ _ x5_1 _ _ y265 false _ ?side1 ?side2 ?side3 ?side4 A46.out).mono ?_
                                (case side1 => exact (Kd.Tb_readsT (by (with_reducible repeat (first | apply Kd.Tb_alloc | apply Kd.Tb_drewN | apply Kd.Tb_drew)); exact HO_5.out)).2.2)
                                (case side2 => exact (Kd.Tb_readsT HO_5.out).2.1)
                                (case side3 => repeat (first | exact (Kd.R_reads' HO_8.out).2.2 | (with_reducible refine Kd.C_alloc ?_ _) | (with_reducible refine Kd.C_drewN ?_ _) | (with_reducible refine Kd.C_drew ?_)))
                                (case side4 => exact (Kd.R_reads' HO_8.out).2.1)
                                rintro e w' ⟨rfl, ⟨nd, rfl⟩⟩
                                refine ⟨_, rfl, ?_⟩
                                refine hK.out _ _ ⟨hHeld.1, hHeld.2.1, hHeld.2.2.1, hHeld.2.2.2.1, hHeld.2.2.2.2.1, hHeld.2.2.2.2.2.1, hHeld.2.2.2.2.2.2.1, hHeld.2.2.2.2.2.2.2⟩ (fun hHeld => ?_)
                                clear hK K
                                refine norm_ (a' := ?_) ?_ ?_
                                rotate_left
                                · show Act.put _ (some 66) _ = _
                                  simp only [Act.put, List.setIfInBounds_toArray, List.set_cons_zero, List.set_cons_succ, i64_w, i32_w]
                                  rfl
                                refine pure_ (i := 17) (N := some 67) (v := ?_) (a' := ?_) #[true, true, true, true, true, true, true, true, true, true, true, true, true, true, true, true, true, true, false] rfl rfl (any_of HT_.out (by kernel_rfl)) (fun _ _ _ h => h) (Or.inl ⟨by rfl, ?_⟩) ?_ ?_
                                rotate_left
                                · intro w'
                                  go_simp
                                  with_reducible rfl
                                rotate_left
                                · simp only [Act.put, List.setIfInBounds_toArray, List.set_cons_zero, List.set_cons_succ, i64_w, i32_w]
                                  rfl
                                refine pure_ (i := 18) (N := some 68) (v := ?_) (a' := ?_) #[true, true, true, true, true, true, true, true, true, true, true, true, true, true, true, true, true, true, true] rfl rfl (any_of HT_.out (by kernel_rfl)) (fun _ _ _ h => h) (Or.inl ⟨by rfl, ?_⟩) ?_ ?_
                                rotate_left
                                · intro w'
                                  go_simp
                                  with_reducible rfl
                                rotate_left
                                · simp only [Act.put, List.setIfInBounds_toArray, List.set_cons_zero, List.set_cons_succ, i64_w, i32_w]
                                  rfl
                                refine done_ (done_of HT_.out (by kernel_rfl)) ?_
                                try go_wp2
                                go_ret
                                exact ⟨by first | rfl | (simp [errW_none, errW_some] <;> rfl) | (simp [*, errW_none, errW_some] <;> rfl), by repeat (first | (with_reducible first | exact HB.out | apply below_alloc | apply pw_below_drewN | apply below_drew1) | exact HB.out)⟩
                          · rw [if_neg c38] at H
                            exact absurd H (by simp)
                        · rw [if_neg c36] at H
                          exact absurd H (by simp)
                      · rw [if_neg c35] at H
                        have c35b0 : decide (x10_3 < (x6_1.length : Int)) = false := decide_eq_false c35
                        (try simp only [hl5_4] at c35b0)
                        (try simp only [hl6_5] at c35b0)
                        clear c35
                        have H' := Aside0.mk H
                        clear H
                        go_wp2
                        go_loopg [11] k3 (fun kq v11 w' => ∃ (x5_4 : List Int) (x11_4 : Int), v11 = .int .i64 x11_4 ∧ Aside0 (colonnadelaw13_BloomHas.l2 kq x5_4 x6_1 x7_1 x11_4 = some r) ∧ Aside0 (kq ≤ k3) ∧ Aside0 (Kd.Tb (Kd.int .u8) 5 w' w.heap.size (fun _ => True) (.slice Ao12 x5_1.length co12) x5_4) ∧ Aside0 (Kd.Tv k40 40 w' w.heap.size (fun _ => True) (.slice Ao14 x6_1.length co14) x6_1) ∧ Aside0 (Below w.heap.size w w'))
                        case atStart => exact ⟨(x5_1), (0), (by first | rfl | (simp; done) | (simp [*]; done)), H', ⟨Nat.le_refl _⟩, ⟨by (with_reducible repeat (first | apply Kd.Tb_alloc | apply Kd.Tb_drewN | apply Kd.Tb_drew)); exact Kd.Tb_mono HO_5.out (fun _ hk => trivial)⟩, ⟨by (with_reducible repeat (first | apply Kd.Tv_alloc | apply Kd.Tv_drewN | apply Kd.Tv_drew)); exact Kd.Tv_mono HO_6.out (fun _ hk => trivial)⟩, ⟨by repeat (first | (with_reducible first | exact HB.out | apply below_alloc | apply pw_below_drewN | apply below_drew1) | exact HB.out)⟩⟩
                        case round =>
                          clear H'
                          try clear c1
                          try clear c2
                          try clear p2
                          try clear q2
                          try clear hx2
                          try clear c3
                          try clear c4
                          try clear p6
                          try clear c13
                          try clear c20
                          try clear c21
                          try clear p27
                          try clear q27
                          try clear hx27
                          try clear c35
                          try clear c35b0
                          try clear c36
                          try clear c38
                          try clear c40
                          try clear c40b0
                          try clear c40b1
                          try clear c40b2
                          try clear c47
                          try clear hx275_0
                          try clear hx275_1
                          try clear hx275_2
                          try clear hx275_3
                          try clear hx277_0
                          try clear hx277_1
                          try clear hx277_2
                          try clear hx277_3
                          try clear p275
                          try clear p277
                          try clear q275
                          try clear q277
                          obtain ⟨x5_4, x11_4, rfl, HA, HK4, HO_5, HO_6, HB⟩ := hrel
                          have hl5_4 := (Kd.Tb_reads' HO_5.out).1
                          rw [hl5_4] at HO_5
                          (try simp only [hl5_4])
                          (try simp only [hl5_4] at HO_6)
                          cases gk with
                          | zero => exact absurd HA.out (by simp [colonnadelaw13_BloomHas.l2])
                          | succ k4 =>
                            have H := HA.out
                            clear HA
                            simp only [colonnadelaw13_BloomHas.l2] at H
                            by_cases c58 : x11_4 < (x5_4.length : Int)
                            · rw [if_pos c58] at H
                              have c58b0 : decide (x11_4 < (x5_4.length : Int)) = true := decide_eq_true c58
                              clear c58
                              by_cases c59 : 0 ≤ x11_4
                              · rw [if_pos c59] at H
                                have c59b0 : decide (0 ≤ x11_4) = true := decide_eq_true c59
                                clear c59
                                obtain ⟨y281, hy281⟩ : ∃ y_ : List Int, y_ = (x5_4.set (x11_4 : Int).toNat (((((rd x5_4 x11_4) * 2) % 256) + ((x7_1) % 256)) % 256)) := ⟨_, rfl⟩
                                replace H : (colonnadelaw13_BloomHas.l2 k4 y281 x6_1 x7_1 (wrap64 (x11_4 + 1))) = some r := by first | (rw [hy281]; with_reducible exact H) | (have H2_ := (Option.bind_some _ _).symm.trans H; rw [hy281]; with_reducible exact H2_) | (have H2_ := (Option.bind_some _ _).symm.trans H; with_reducible exact H2_) | with_reducible exact H | (rw [hy281]; exact H) | exact H
                                have Ny281 := Aside0.mk hy281
                                clear hy281
                                have H' := Aside0.mk H
                                clear H
                                have p280 : 0 ≤ (x11_4 : Int) := of_decide_eq_true (by first | (with_reducible assumption) | assumption)
                                have q280 : x11_4 < (x5_4.length : Int) := of_decide_eq_true (by first | (with_reducible assumption) | assumption)
                                obtain ⟨ad280, e280, hx280_0⟩ := Kd.at_int (Kd.Tb_reads' HO_5.out).2.2 x11_4 p280 q280
                                cases e280
                                replace p280 := eq_true p280
                                replace q280 := eq_true q280
                                have p60 : 0 ≤ (x11_4 : Int) := of_decide_eq_true (by first | (with_reducible assumption) | assumption)
                                have q60 : (x11_4 : Int) < ((x5_4.length : Int) : Int) := of_decide_eq_true (by first | (with_reducible assumption) | assumption)
                                obtain ⟨go60, co60, eo60, gb60, gl60, cl60, HG60⟩ := Kd.Tb_form HO_5.out (by omega)
                                (first | cases eo60 | (injection eo60 with ea_ en_ ec_; (first | subst ea_ | (injection ea_ with ea_; subst ea_)); subst ec_; clear en_))
                                have GB60 := Aside0.mk gb60
                                have GG60 := Aside0.mk HG60
                                clear gb60 gl60 HG60
                                (first | simp only [add_plain] at hx280_0 | skip)
                                obtain ⟨hx60_0, hf60_0⟩ := Kd.Tb_celln 0 HO_5.out (x11_4 : Int) p60 q60
                                replace p60 := eq_true p60
                                replace q60 := eq_true q60
                                have HP61 := Kd.Tb_putg HO_5.out (x11_4 : Int) (of_decide_eq_true (by first | (with_reducible assumption) | assumption)) (by have h_ : (x11_4 : Int) < ((x5_4.length : Int) : Int) := of_decide_eq_true (by first | (with_reducible assumption) | assumption); first | exact h_ | (have e_ := (Kd.Tb_reads' HO_5.out).1; omega) | simpa using h_) (((((rd x5_4 x11_4) * 2) % 256) + ((x7_1) % 256)) % 256)
                                go_wp2_with (first | ((with_reducible refine gate_store (t := 5) (p := 85) rfl ?_); refine store_event (t := 5) (p := 85) (v := ?vo_w62) (w1 := (wr.setCell ⟨go60, (x11_4 : Int).toNat, none⟩ (.int .u8 (((((rd x5_4 x11_4) * 2) % 256) + ((x7_1) % 256)) % 256)))) ?hg ?ho ?hn ?hr ?_; (case ho => rfl); (case hg => rfl); (case hn => rfl); (case hr => first | (go_simp; done) | (go_simp; rfl)); intro w62 hw; have hg : wr.grownBy w62 (some go60) := (by rw [hw]; exact HP61.2); have hp_ : Kd.Tb (Kd.int .u8) 5 w62 w.heap.size (fun _ => True) (.slice (some ⟨go60, 0, none⟩) x5_4.length co12) y281 := (by rw [hw, Ny281.out]; exact HP61.1); clear HP61; have n0_ := Aside0.mk (hp_); have n1_ := Aside0.mk (Kd.Tv_over' (v := (.slice (some ⟨go60, 0, none⟩) x5_4.length co12)) (by (with_reducible repeat (first | apply Kd.Tv_alloc | apply Kd.Tv_drewN | apply Kd.Tv_drew)); exact HO_6.out) (Kd.Tb_typed HO_5.out) (by decide) hg); have n2_ := Aside0.mk ((by rw [hw]; exact below_set (HB.out) GB60.out : Below w.heap.size w w62)); clear HO_5; clear HO_6; clear HB; have HO_5 := n0_; have HO_6 := n1_; have HB := n2_; clear n0_ n1_ n2_; clear hg hw hp_))
                                (try simp only [← hl5_4])
                                go_roundg k4
                                case measure => have := HK1.out; have := HJ9.out; have := HK3.out; have := HK4.out; omega
                                case rel => exact ⟨(y281), (wrap64 (x11_4 + 1)), (by first | rfl | (simp; done) | (simp [*]; done)), H', ⟨by have := HK1.out; have := HJ9.out; have := HK3.out; have := HK4.out; omega⟩, ⟨by (try simp only [hl5_4]); (with_reducible repeat (first | apply Kd.Tb_alloc | apply Kd.Tb_drewN | apply Kd.Tb_drew)); exact HO_5.out⟩, ⟨by (try simp only [hl5_4]); (with_reducible repeat (first | apply Kd.Tv_alloc | apply Kd.Tv_drewN | apply Kd.Tv_drew)); exact HO_6.out⟩, ⟨by repeat (first | (with_reducible first | exact HB.out | apply below_alloc | apply pw_below_drewN | apply below_drew1) | exact HB.out)⟩⟩
                              · rw [if_neg c59] at H
                                exact absurd H (by simp)
                            · rw [if_neg c58] at H
                              have c58b0 : decide (x11_4 < (x5_4.length : Int)) = false := decide_eq_false c58
                              (try simp only [hl5_4] at c58b0)
                              (try simp only [hl6_5] at c58b0)
                              clear c58
                              have H' := Aside0.mk H
                              clear H
                              go_wp2
                              go_loopg [12] k4 (fun kq v12 w' => ∃ (x6_5 : List (S40)) (x12_5 : Int), v12 = .int .i64 x12_5 ∧ Aside0 (colonnadelaw13_BloomHas.l3 kq x5_4 x6_5 x7_1 x12_5 = some r) ∧ Aside0 (kq ≤ k4) ∧ Aside0 (Kd.Tb (Kd.int .u8) 5 w' w.heap.size (fun _ => True) (.slice Ao12 x5_4.length co12) x5_4) ∧ Aside0 (Kd.Tv k40 40 w' w.heap.size (fun _ => True) (.slice Ao14 x6_1.length co14) x6_5) ∧ Aside0 (Below w.heap.size w w'))
                              case atStart => exact ⟨(x6_1), (0), (by first | rfl | (simp; done) | (simp [*]; done)), H', ⟨Nat.le_refl _⟩, ⟨by (try simp only [hl5_4]); (with_reducible repeat (first | apply Kd.Tb_alloc | apply Kd.Tb_drewN | apply Kd.Tb_drew)); exact HO_5.out⟩, ⟨by (try simp only [hl5_4]); (with_reducible repeat (first | apply Kd.Tv_alloc | apply Kd.Tv_drewN | apply Kd.Tv_drew)); exact HO_6.out⟩, ⟨by repeat (first | (with_reducible first | exact HB.out | apply below_alloc | apply pw_below_drewN | apply below_drew1) | exact HB.out)⟩⟩
                              case round =>
                                clear H'
                                try clear c1
                                try clear c2
                                try clear p2
                                try clear q2
                                try clear hx2
                                try clear c3
                                try clear c4
                                try clear c5
                                try clear p6
                                try clear q6
                                try clear hx6
                                try clear hf6
                                try clear c13
                                try clear c20
                                try clear c21
                                try clear p27
                                try clear q27
                                try clear hx27
                                try clear p28
                                try clear q28
                                try clear hx28
                                try clear c35
                                try clear c35b0
                                try clear c36
                                try clear c38
                                try clear c40
                                try clear c40b0
                                try clear c40b1
                                try clear c40b2
                                try clear c47
                                try clear c58
                                try clear c58b0
                                try clear c59
                                try clear c59b0
                                try clear p60
                                try clear q60
                                try clear hx60
                                try clear hf60
                                try clear hx275_0
                                try clear hx275_1
                                try clear hx275_2
                                try clear hx275_3
                                try clear hx277_0
                                try clear hx277_1
                                try clear hx277_2
                                try clear hx277_3
                                try clear hx280_0
                                try clear hx60_0
                                try clear p2
                                try clear p27
                                try clear p275
                                try clear p277
                                try clear p280
                                try clear p6
                                try clear p60
                                try clear q2
                                try clear q27
                                try clear q275
                                try clear q277
                                try clear q280
                                try clear q60
                                obtain ⟨x6_5, x12_5, rfl, HA, HK5, HO_5, HO_6, HB⟩ := hrel
                                have hl6_5 := (Kd.Tv_reads' HO_6.out).1
                                rw [hl6_5] at HO_6
                                (try simp only [hl6_5])
                                (try simp only [hl6_5] at HO_5)
                                cases gk with
                                | zero => exact absurd HA.out (by simp [colonnadelaw13_BloomHas.l3])
                                | succ k5 =>
                                  have H := HA.out
                                  clear HA
                                  simp only [colonnadelaw13_BloomHas.l3] at H
                                  by_cases c63 : x12_5 < (x6_5.length : Int)
                                  · rw [if_pos c63] at H
                                    have c63b0 : decide (x12_5 < (x6_5.length : Int)) = true := decide_eq_true c63
                                    clear c63
                                    by_cases c64 : 0 ≤ x12_5
                                    · rw [if_pos c64] at H
                                      have c64b0 : decide (0 ≤ x12_5) = true := decide_eq_true c64
                                      clear c64
                                      by_cases c65 : ((rd_T40 x6_5 x12_5).f0) = 1
                                      · rw [if_pos c65] at H
                                        have c65b0 : (((rd_T40 x6_5 x12_5).f0) == 1) = true := beq_iff_eq.mpr c65
                                        have c65b1 : (((rd_T40 x6_5 x12_5).f0) != 1) = false := bne_eq_false_iff_eq.mpr c65
                                        clear c65
                                        obtain ⟨y284, hy284⟩ : ∃ y_ : List (S40), y_ = (x6_5.set (x12_5 : Int).toNat (⟨(rd_T40 x6_5 x12_5).f0, wrap64 (((rd_T40 x6_5 x12_5).f1) - 1), (rd_T40 x6_5 x12_5).f2, (rd_T40 x6_5 x12_5).f3⟩ : S40)) := ⟨_, rfl⟩
                                        replace H : (colonnadelaw13_BloomHas.l3 k5 x5_4 y284 x7_1 (wrap64 (x12_5 + 1))) = some r := by first | (rw [hy284]; with_reducible exact H) | (have H2_ := (Option.bind_some _ _).symm.trans H; rw [hy284]; with_reducible exact H2_) | (have H2_ := (Option.bind_some _ _).symm.trans H; with_reducible exact H2_) | with_reducible exact H | (rw [hy284]; exact H) | exact H
                                        have Ny284 := Aside0.mk hy284
                                        clear hy284
                                        have H' := Aside0.mk H
                                        clear H
                                        have p282 : 0 ≤ (x12_5 : Int) := of_decide_eq_true (by first | (with_reducible assumption) | assumption)
                                        have q282 : x12_5 < (x6_5.length : Int) := of_decide_eq_true (by first | (with_reducible assumption) | assumption)
                                        obtain ⟨ad282, e282, hx282_0, hx282_1, hx282_2, hx282_3⟩ := at_T40 (Kd.Tv_reads' HO_6.out).2.2 x12_5 p282 q282
                                        cases e282
                                        replace p282 := eq_true p282
                                        replace q282 := eq_true q282
                                        have p283 : 0 ≤ (x12_5 : Int) := of_decide_eq_true (by first | (with_reducible assumption) | assumption)
                                        have q283 : x12_5 < (x6_5.length : Int) := of_decide_eq_true (by first | (with_reducible assumption) | assumption)
                                        obtain ⟨ad283, e283, hx283_0, hx283_1, hx283_2, hx283_3⟩ := at_T40 (Kd.Tv_reads' HO_6.out).2.2 x12_5 p283 q283
                                        obtain rfl : ad282 = ad283 := (by injection e283)
                                        replace p283 := eq_true p283
                                        replace q283 := eq_true q283
                                        have p66 : 0 ≤ (x12_5 : Int) := of_decide_eq_true (by first | (with_reducible assumption) | assumption)
                                        have q66 : (x12_5 : Int) < ((x6_5.length : Int) : Int) := of_decide_eq_true (by first | (with_reducible assumption) | assumption)
                                        obtain ⟨go66, co66, eo66, gb66, gl66, cl66, HG66⟩ := Kd.Tv_form HO_6.out (by omega)
                                        (first | cases eo66 | (injection eo66 with ea_ en_ ec_; (first | subst ea_ | (injection ea_ with ea_; subst ea_)); subst ec_; clear en_))
                                        have GB66 := Aside0.mk gb66
                                        have GG66 := Aside0.mk HG66
                                        clear gb66 gl66 HG66
                                        (first | simp only [add_plain] at hx282_0 | skip)
                                        (first | simp only [add_plain] at hx282_1 | skip)
                                        (first | simp only [add_plain] at hx282_2 | skip)
                                        (first | simp only [add_plain] at hx282_3 | skip)
                                        (first | simp only [add_plain] at hx283_0 | skip)
                                        (first | simp only [add_plain] at hx283_1 | skip)
                                        (first | simp only [add_plain] at hx283_2 | skip)
                                        (first | simp only [add_plain] at hx283_3 | skip)
                                        obtain ⟨ce66, hcl66, hM66, hcc66, hfr66⟩ := Kd.Tv_elem HO_6.out z40 (x12_5 : Int) p66 q66
                                        obtain rfl := k40_openM hM66
                                        have hx66_0 : wr.cell? ⟨go66, (x12_5 : Int).toNat * 4, none⟩ = some (.int .i64 ((rd_T40 x6_5 x12_5).f0)) := hcc66 0 _ rfl
                                        have hx66_1 : wr.cell? ⟨go66, (x12_5 : Int).toNat * 4 + 1, none⟩ = some (.int .i64 ((rd_T40 x6_5 x12_5).f1)) := hcc66 1 _ rfl
                                        have hx66_2 : wr.cell? ⟨go66, (x12_5 : Int).toNat * 4 + 2, none⟩ = some (.float .f64 ((rd_T40 x6_5 x12_5).f2)) := hcc66 2 _ rfl
                                        have hx66_3 : wr.cell? ⟨go66, (x12_5 : Int).toNat * 4 + 3, none⟩ = some (.string ((rd_T40 x6_5 x12_5).f3)) := hcc66 3 _ rfl
                                        have hf66_0 : wr.frozen? ⟨go66, (x12_5 : Int).toNat * 4, none⟩ = false := hfr66 0
                                        have hf66_1 : wr.frozen? ⟨go66, (x12_5 : Int).toNat * 4 + 1, none⟩ = false := hfr66 1
                                        have hf66_2 : wr.frozen? ⟨go66, (x12_5 : Int).toNat * 4 + 2, none⟩ = false := hfr66 2
                                        have hf66_3 : wr.frozen? ⟨go66, (x12_5 : Int).toNat * 4 + 3, none⟩ = false := hfr66 3
                                        clear hcl66 hcc66 hfr66 hM66
                                        replace p66 := eq_true p66
                                        replace q66 := eq_true q66
                                        have HX67 := Aside0.mk (show Kd.Tv k40 40 wr w.heap.size (fun _ => True) (.slice (some ⟨go66, 0, none⟩) x6_5.length co14) x6_5 from (by (with_reducible repeat (first | apply Kd.Tv_alloc | apply Kd.Tv_drewN | apply Kd.Tv_drew)); exact HO_6.out))
                                        obtain ⟨ce67, hcl67, hM67, hcc67, hfr67⟩ := Kd.Tv_elem HX67.out z40 (x12_5 : Int) (of_decide_eq_true (by first | (with_reducible assumption) | assumption)) (by have h_ : (x12_5 : Int) < ((x6_5.length : Int) : Int) := of_decide_eq_true (by first | (with_reducible assumption) | assumption); first | exact h_ | (have e_ := (Kd.Tv_reads' HO_6.out).1; omega) | simpa using h_)
                                        obtain rfl := k40_openM hM67
                                        have HP67 := Kd.Tv_seg HX67.out (x12_5 : Int) (of_decide_eq_true (by first | (with_reducible assumption) | assumption)) (by have h_ : (x12_5 : Int) < ((x6_5.length : Int) : Int) := of_decide_eq_true (by first | (with_reducible assumption) | assumption); first | exact h_ | (have e_ := (Kd.Tv_reads' HO_6.out).1; omega) | simpa using h_) (seg := [.int .i64 (wrap64 (((rd_T40 x6_5 x12_5).f1) - 1))]) (j := 1) hcl67 hcc67 (show 2 ≤ 4 from by decide) (x' := (⟨(rd_T40 x6_5 x12_5).f0, wrap64 (((rd_T40 x6_5 x12_5).f1) - 1), (rd_T40 x6_5 x12_5).f2, (rd_T40 x6_5 x12_5).f3⟩ : S40)) (k40_mkM _ _ _ (⟨(rd_T40 x6_5 x12_5).f0, wrap64 (((rd_T40 x6_5 x12_5).f1) - 1), (rd_T40 x6_5 x12_5).f2, (rd_T40 x6_5 x12_5).f3⟩ : S40) ) (fun _ hk => hk)
                                        have hx67_1 := hcc67 1 _ rfl
                                        (try simp only [show (k40).sz = 4 from rfl, Nat.mul_one, Nat.add_zero] at hx67_1)
                                        have hf67_1 := hfr67 1
                                        (try simp only [show (k40).sz = 4 from rfl, Nat.mul_one, Nat.add_zero] at hf67_1)
                                        clear hcl67 hcc67 hfr67 hM67
                                        go_wp2_with (first | ((with_reducible refine gate_store (t := 2) (p := 107) rfl ?_); refine store_event (t := 2) (p := 107) (v := ?vo_w68) (w1 := (wr.setCell ⟨go66, (x12_5 : Int).toNat * 4 + 1, none⟩ (.int .i64 (wrap64 (((rd_T40 x6_5 x12_5).f1) - 1))))) ?hg ?ho ?hn ?hr ?_; (case ho => rfl); (case hg => rfl); (case hn => rfl); (case hr => first | (go_simp; done) | (go_simp; rfl)); intro w68 hw; have hg : wr.grownBy w68 (some go66) := (by rw [hw]; exact HP67.2); have hp_ : Kd.Tv k40 40 w68 w.heap.size (fun _ => True) (.slice (some ⟨go66, 0, none⟩) x6_5.length co14) y284 := (by rw [hw, Ny284.out]; exact HP67.1); clear HP67; have n0_ := Aside0.mk (Kd.Tb_over' (v := (.slice (some ⟨go66, 0, none⟩) x6_5.length co14)) (by (with_reducible repeat (first | apply Kd.Tb_alloc | apply Kd.Tb_drewN | apply Kd.Tb_drew)); exact HO_5.out) (Kd.Tv_typed HO_6.out) (by decide) hg); have n1_ := Aside0.mk (hp_); have n2_ := Aside0.mk ((by rw [hw]; exact below_set (HB.out) GB66.out : Below w.heap.size w w68)); clear HO_5; clear HO_6; clear HB; have HO_5 := n0_; have HO_6 := n1_; have HB := n2_; clear n0_ n1_ n2_; clear hg hw hp_))
                                        (try simp only [← hl6_5])
                                        go_roundg k5
                                        case measure => have := HK1.out; have := HJ9.out; have := HK3.out; have := HK4.out; have := HK5.out; omega
                                        case rel => exact ⟨(y284), (wrap64 (x12_5 + 1)), (by first | rfl | (simp; done) | (simp [*]; done)), H', ⟨by have := HK1.out; have := HJ9.out; have := HK3.out; have := HK4.out; have := HK5.out; omega⟩, ⟨by (try simp only [hl5_4]); (try simp only [hl6_5]); (with_reducible repeat (first | apply Kd.Tb_alloc | apply Kd.Tb_drewN | apply Kd.Tb_drew)); exact HO_5.out⟩, ⟨by (try simp only [hl5_4]); (try simp only [hl6_5]); (with_reducible repeat (first | apply Kd.Tv_alloc | apply Kd.Tv_drewN | apply Kd.Tv_drew)); exact HO_6.out⟩, ⟨by repeat (first | (with_reducible first | exact HB.out | apply below_alloc | apply pw_below_drewN | apply below_drew1) | exact HB.out)⟩⟩
                                      · rw [if_neg c65] at H
                                        have c65b0 : (((rd_T40 x6_5 x12_5).f0) == 1) = false := beq_eq_false_iff_ne.mpr c65
                                        have c65b1 : (((rd_T40 x6_5 x12_5).f0) != 1) = true := bne_iff_ne.mpr c65
                                        have H' := Aside0.mk H
                                        clear H
                                        have p282 : 0 ≤ (x12_5 : Int) := of_decide_eq_true (by first | (with_reducible assumption) | assumption)
                                        have q282 : x12_5 < (x6_5.length : Int) := of_decide_eq_true (by first | (with_reducible assumption) | assumption)
                                        obtain ⟨ad282, e282, hx282_0, hx282_1, hx282_2, hx282_3⟩ := at_T40 (Kd.Tv_reads' HO_6.out).2.2 x12_5 p282 q282
                                        cases e282
                                        replace p282 := eq_true p282
                                        replace q282 := eq_true q282
                                        go_wp2
                                        (try simp only [← hl6_5])
                                        go_roundg k5
                                        case measure => have := HK1.out; have := HJ9.out; have := HK3.out; have := HK4.out; have := HK5.out; omega
                                        case rel => exact ⟨(x6_5), (wrap64 (x12_5 + 1)), (by first | rfl | (simp; done) | (simp [*]; done)), H', ⟨by have := HK1.out; have := HJ9.out; have := HK3.out; have := HK4.out; have := HK5.out; omega⟩, ⟨by (try simp only [hl5_4]); (try simp only [hl6_5]); (with_reducible repeat (first | apply Kd.Tb_alloc | apply Kd.Tb_drewN | apply Kd.Tb_drew)); exact HO_5.out⟩, ⟨by (try simp only [hl5_4]); (try simp only [hl6_5]); (with_reducible repeat (first | apply Kd.Tv_alloc | apply Kd.Tv_drewN | apply Kd.Tv_drew)); exact HO_6.out⟩, ⟨by repeat (first | (with_reducible first | exact HB.out | apply below_alloc | apply pw_below_drewN | apply below_drew1) | exact HB.out)⟩⟩
                                    · rw [if_neg c64] at H
                                      exact absurd H (by simp)
                                  · rw [if_neg c63] at H
                                    have c63b0 : decide (x12_5 < (x6_5.length : Int)) = false := decide_eq_false c63
                                    (try simp only [hl5_4] at c63b0)
                                    (try simp only [hl6_5] at c63b0)
                                    clear c63
                                    have H' := Aside0.mk H
                                    clear H
                                    go_wp2
                                    (try simp only [← hl5_4, ← hl6_5])
                                    go_roundg k5
                                    case measure => have := HK1.out; have := HJ9.out; have := HK3.out; have := HK4.out; have := HK5.out; omega
                                    case rel => exact ⟨(x5_4), (x6_5), (wrap64 (x7_1 + 1)), (by first | rfl | (simp; done) | (simp [*]; done)), H', ⟨by have := HK1.out; have := HJ9.out; have := HK3.out; have := HK4.out; have := HK5.out; omega⟩, ⟨by (try simp only [hl5_4]); (try simp only [hl6_5]); (with_reducible repeat (first | apply Kd.Tb_alloc | apply Kd.Tb_drewN | apply Kd.Tb_drew)); exact HO_5.out⟩, ⟨by (try simp only [hl5_4]); (try simp only [hl6_5]); (with_reducible repeat (first | apply Kd.Tv_alloc | apply Kd.Tv_drewN | apply Kd.Tv_drew)); exact HO_6.out⟩, ⟨by repeat (first | (with_reducible first | exact HB.out | apply below_alloc | apply pw_below_drewN | apply below_drew1) | exact HB.out)⟩⟩
          · rw [if_neg c9] at H
            exact absurd H (by simp)
        · rw [if_neg c8] at H
          exact absurd H (by simp)
      · rw [if_neg c7] at H
        have c7b0 : decide (x7_1 < 3) = false := decide_eq_false c7
        clear c7
        obtain rfl := Option.some.inj H
        go_wp2
        go_ret
        exact ⟨by first | rfl | (simp [errW_none, errW_some] <;> rfl) | (simp [*, errW_none, errW_some] <;> rfl), by repeat (first | (with_reducible first | exact HB.out | apply below_alloc | apply pw_below_drewN | apply below_drew1) | exact HB.out)⟩

end Go.Proofs.Ytgmeefgihidomaa.Pa
