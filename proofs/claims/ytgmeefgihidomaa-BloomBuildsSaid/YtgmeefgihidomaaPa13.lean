-- Written by xprint.py, a program of this session, over the kit's print. Not trusted: Lean checks it.
import Derived.Test.YtgmeefgihidomaaPa0
import Derived.Test.YtgmeefgihidomaaPa8
import Derived.Test.YtgmeefgihidomaaPa11
import Derived.Test.YtgmeefgihidomaaKeptV
import Derived.Test.YtgmeefgihidomaaLent
namespace Go.Proofs.Ytgmeefgihidomaa.Pa
open Go.RowKit Go.Proofs.YtgmeefgihidomaaW.PrintWords Go.Proofs.YtgmeefgihidomaaW.PrintLast Go.Proofs.YtgmeefgihidomaaW.PrintMore
attribute [local go_sem] max2_int min2_int max_two min_two max_three min_three max_four min_four   -- for this text's walks alone
attribute [local go_sem] run_store_float cmp_feq cmp_fne cmp_flt cmp_fle cmp_fgt cmp_fge un_fneg equalIn_feq ext_bits ext_frombits
set_option linter.unusedVariables false
set_option linter.unusedSimpArgs false

/-! ### colonnadelaw13_BloomBuilds: function 5 -/
mutual
def colonnadelaw13_BloomBuilds.l0 : Nat → Int → List (S40) → Int → Option (Bool)
  | 0, _, _, _ => none
  | k + 1, x0, x5, x6 => if x6 < 3 then (if ([] : List (S40)).length + x5.length < 3518437208883 then ((some (([] : List (S40)) ++ x5 : List (S40))).bind fun y295 => ((colonnaderef13_Build.f k x0 y295).bind fun bt298 => ((bloom_Build.f k x0 x5).bind fun bt302 => (if bt302.2 = bt298.2 then (if (strOfNums bt302.1).toList = (strOfNums bt298.1).toList then ((colonnadelaw13_keptValues.f k x5 y295).bind fun t306 => (colonnadelaw13_BloomBuilds.j1 k x0 x5 x6 (!t306))) else (colonnadelaw13_BloomBuilds.j1 k x0 x5 x6 true)) else (colonnadelaw13_BloomBuilds.j1 k x0 x5 x6 true))))) else (none)) else (some true)
def colonnadelaw13_BloomBuilds.j1 : Nat → Int → List (S40) → Int → Bool → Option (Bool)
  | 0, _, _, _, _ => none
  | k + 1, x0, x5, x6, x48 => if x48 = true then (some false) else (colonnadelaw13_BloomBuilds.l1 k x0 x5 x6 0)
def colonnadelaw13_BloomBuilds.l1 : Nat → Int → List (S40) → Int → Int → Option (Bool)
  | 0, _, _, _, _ => none
  | k + 1, x0, x5, x6, x12 => if x12 < (x5.length : Int) then (if 0 ≤ x12 then (if ((rd_T40 x5 x12).f0) = 1 then (colonnadelaw13_BloomBuilds.l1 k x0 (x5.set (x12 : Int).toNat (⟨(rd_T40 x5 x12).f0, wrap64 (((rd_T40 x5 x12).f1) + 1), (rd_T40 x5 x12).f2, (rd_T40 x5 x12).f3⟩ : S40)) x6 (wrap64 (x12 + 1))) else (if ((rd_T40 x5 x12).f0) = 2 then (if ((rd_T40 x5 x12).f3).size + 1 ≤ 9223372036854775807 then (colonnadelaw13_BloomBuilds.l1 k x0 (x5.set (x12 : Int).toNat (⟨(rd_T40 x5 x12).f0, (rd_T40 x5 x12).f1, (rd_T40 x5 x12).f2, ((rd_T40 x5 x12).f3) ++ (⟨#[46]⟩ : ByteArray)⟩ : S40)) x6 (wrap64 (x12 + 1))) else (none)) else (colonnadelaw13_BloomBuilds.l1 k x0 x5 x6 (wrap64 (x12 + 1))))) else (none)) else (colonnadelaw13_BloomBuilds.l0 k x0 x5 (wrap64 (x6 + 1)))
end
def colonnadelaw13_BloomBuilds.f (k : Nat) (a0 : Int) (l1 : List (S40)) : Option (Bool) := (colonnadelaw13_lentValues.f l1).bind fun t292 => (colonnadelaw13_BloomBuilds.l0 k a0 t292 0)
theorem colonnadelaw13_BloomBuilds.mono_l : ∀ k, (∀ y0 y1 y2, LeO (colonnadelaw13_BloomBuilds.l0 k y0 y1 y2) (colonnadelaw13_BloomBuilds.l0 (k + 1) y0 y1 y2)) ∧ (∀ y0 y1 y2 y3, LeO (colonnadelaw13_BloomBuilds.j1 k y0 y1 y2 y3) (colonnadelaw13_BloomBuilds.j1 (k + 1) y0 y1 y2 y3)) ∧ (∀ y0 y1 y2 y3, LeO (colonnadelaw13_BloomBuilds.l1 k y0 y1 y2 y3) (colonnadelaw13_BloomBuilds.l1 (k + 1) y0 y1 y2 y3))
  | 0 => ⟨fun _ _ _ r h => by simp [colonnadelaw13_BloomBuilds.l0] at h, fun _ _ _ _ r h => by simp [colonnadelaw13_BloomBuilds.j1] at h, fun _ _ _ _ r h => by simp [colonnadelaw13_BloomBuilds.l1] at h⟩
  | k + 1 => by
    obtain ⟨ih0, ih1, ih2⟩ := colonnadelaw13_BloomBuilds.mono_l k
    refine ⟨?_, ?_, ?_⟩
    · intro y0 y1 y2
      unfold colonnadelaw13_BloomBuilds.l0
      repeat' first
      | (with_reducible exact ih0 _ _ _)
      | (with_reducible exact ih1 _ _ _ _)
      | (with_reducible exact ih2 _ _ _ _)
      | (with_reducible exact bloom_Build.mono _ _ _)
      | (with_reducible exact colonnadelaw13_keptValues.mono _ _ _)
      | (with_reducible exact colonnaderef13_Build.mono _ _ _)
      | (with_reducible exact LeO.refl _)
      | (with_reducible exact LeO.none _)
      | (with_reducible refine LeO.ite ?_ ?_)
      | (with_reducible refine LeO.bind ?_ (fun _ => ?_))
      | exact ih0 _ _ _
      | exact ih1 _ _ _ _
      | exact ih2 _ _ _ _
      | exact bloom_Build.mono _ _ _
      | exact colonnadelaw13_keptValues.mono _ _ _
      | exact colonnaderef13_Build.mono _ _ _
      | exact LeO.none _
      | refine LeO.ite ?_ ?_
      | refine LeO.bind ?_ (fun _ => ?_)
    · intro y0 y1 y2 y3
      unfold colonnadelaw13_BloomBuilds.j1
      repeat' first
      | (with_reducible exact ih0 _ _ _)
      | (with_reducible exact ih1 _ _ _ _)
      | (with_reducible exact ih2 _ _ _ _)
      | (with_reducible exact bloom_Build.mono _ _ _)
      | (with_reducible exact colonnadelaw13_keptValues.mono _ _ _)
      | (with_reducible exact colonnaderef13_Build.mono _ _ _)
      | (with_reducible exact LeO.refl _)
      | (with_reducible exact LeO.none _)
      | (with_reducible refine LeO.ite ?_ ?_)
      | (with_reducible refine LeO.bind ?_ (fun _ => ?_))
      | exact ih0 _ _ _
      | exact ih1 _ _ _ _
      | exact ih2 _ _ _ _
      | exact bloom_Build.mono _ _ _
      | exact colonnadelaw13_keptValues.mono _ _ _
      | exact colonnaderef13_Build.mono _ _ _
      | exact LeO.none _
      | refine LeO.ite ?_ ?_
      | refine LeO.bind ?_ (fun _ => ?_)
    · intro y0 y1 y2 y3
      unfold colonnadelaw13_BloomBuilds.l1
      repeat' first
      | (with_reducible exact ih0 _ _ _)
      | (with_reducible exact ih1 _ _ _ _)
      | (with_reducible exact ih2 _ _ _ _)
      | (with_reducible exact bloom_Build.mono _ _ _)
      | (with_reducible exact colonnadelaw13_keptValues.mono _ _ _)
      | (with_reducible exact colonnaderef13_Build.mono _ _ _)
      | (with_reducible exact LeO.refl _)
      | (with_reducible exact LeO.none _)
      | (with_reducible refine LeO.ite ?_ ?_)
      | (with_reducible refine LeO.bind ?_ (fun _ => ?_))
      | exact ih0 _ _ _
      | exact ih1 _ _ _ _
      | exact ih2 _ _ _ _
      | exact bloom_Build.mono _ _ _
      | exact colonnadelaw13_keptValues.mono _ _ _
      | exact colonnaderef13_Build.mono _ _ _
      | exact LeO.none _
      | refine LeO.ite ?_ ?_
      | refine LeO.bind ?_ (fun _ => ?_)
theorem colonnadelaw13_BloomBuilds.mono : ∀ a0 a1 k, LeO (colonnadelaw13_BloomBuilds.f k a0 a1) (colonnadelaw13_BloomBuilds.f (k + 1) a0 a1) := by
  intro a0 a1 k
  obtain ⟨ih0, ih1, ih2⟩ := colonnadelaw13_BloomBuilds.mono_l k
  unfold colonnadelaw13_BloomBuilds.f
  repeat' first
      | (with_reducible exact ih0 _ _ _)
      | (with_reducible exact ih1 _ _ _ _)
      | (with_reducible exact ih2 _ _ _ _)
      | (with_reducible exact bloom_Build.mono _ _ _)
      | (with_reducible exact colonnadelaw13_keptValues.mono _ _ _)
      | (with_reducible exact colonnaderef13_Build.mono _ _ _)
      | (with_reducible exact LeO.refl _)
      | (with_reducible exact LeO.none _)
      | (with_reducible refine LeO.ite ?_ ?_)
      | (with_reducible refine LeO.bind ?_ (fun _ => ?_))
      | exact ih0 _ _ _
      | exact ih1 _ _ _ _
      | exact ih2 _ _ _ _
      | exact bloom_Build.mono _ _ _
      | exact colonnadelaw13_keptValues.mono _ _ _
      | exact colonnaderef13_Build.mono _ _ _
      | exact LeO.none _
      | refine LeO.ite ?_ ?_
      | refine LeO.bind ?_ (fun _ => ?_)
set_option maxHeartbeats 8000000 in
set_option maxRecDepth 100000 in
theorem colonnadelaw13_BloomBuilds.calls (k : Nat) (a0 : Int) (A1 : Option Addr) (c1 : Nat) (l1 : List (S40)) (r : Bool) (w : World) (hr1 : Kd.C k40 w A1 l1.length l1) (hc1 : l1.length ≤ c1) (h : colonnadelaw13_BloomBuilds.f k a0 l1 = some r) :
    Calls Try.prog 5 #[.int .i64 a0, .slice A1 l1.length c1] w fun e w' => e = .returned (.bool r) ∧ Below w.heap.size w w' := by
  have HR1 := Aside0.mk hr1
  have HC1 := Aside0.mk hc1
  clear hr1 hc1
  have HB := Aside0.mk (Below.refl w.heap.size w)
  have H : ((colonnadelaw13_lentValues.f l1).bind fun t292 => (colonnadelaw13_BloomBuilds.l0 k a0 t292 0)) = some r := h
  clear h
  replace H := Option.bind_eq_some_iff.mp H
  obtain ⟨t292, A30, H⟩ := H
  replace H : (colonnadelaw13_BloomBuilds.l0 k a0 t292 0) = some r := H
  have A3 := Aside0.mk A30
  clear A30
  have H' := Aside0.mk H
  clear H
  go_enter Try.func5, Try.ntmps5
  go_wp2_with (first | ((with_reducible refine gate_callee (f := 14) rfl ?_); refine goesL_ (some 14) rfl rfl Try.func14 (by kernel_rfl) rfl #[.slice A1 l1.length c1] rfl (by (try simp only [List.map_toArray, List.map_cons, List.map_nil]); first | done | rfl | (simp only [List.length_drop, List.length_take]; rfl)) ?_; (with_reducible refine (colonnadelaw13_lentValues.calls _ _ l1 t292 _ ?side1 ?side2 A3.out).mono ?_); (case side1 => repeat (first | exact HR1.out | (with_reducible refine Kd.C_alloc ?_ _) | (with_reducible refine Kd.C_drewN ?_ _) | (with_reducible refine Kd.C_drew ?_))); (case side2 => exact HC1.out); rintro e w4 ⟨v293, rfl, ho0, hb⟩; refine ⟨_, rfl, ?_⟩; have n0_ := Aside0.mk (Kd.Tv_lower ho0 (below_size (by repeat (first | (with_reducible first | exact HB.out | apply below_alloc | apply pw_below_drewN | apply below_drew1) | exact HB.out)))); have n1_ := Aside0.mk (below_step (by repeat (first | (with_reducible first | exact HB.out | apply below_alloc | apply pw_below_drewN | apply below_drew1) | exact HB.out)) hb); clear HB; have HO294 := n0_; have HB := n1_; clear n0_ n1_; (try clear hb); (try clear hb2); (try clear hk); (try clear hi); (try clear ho0)))
  go_loopg [6] k (fun kq v6 w' => ∃ (x5_1 : List (S40)) (x6_1 : Int), v6 = .int .i64 x6_1 ∧ Aside0 (colonnadelaw13_BloomBuilds.l0 kq a0 x5_1 x6_1 = some r) ∧ Aside0 (kq ≤ k) ∧ Aside0 (Kd.Tv k40 40 w' w.heap.size (fun _ => True) v293 x5_1) ∧ Aside0 (Below w.heap.size w w'))
  case atStart => exact ⟨(t292), (0), (by first | rfl | (simp; done) | (simp [*]; done)), H', ⟨Nat.le_refl _⟩, ⟨by (with_reducible repeat (first | apply Kd.Tv_alloc | apply Kd.Tv_drewN | apply Kd.Tv_drew)); exact HO294.out⟩, ⟨by repeat (first | (with_reducible first | exact HB.out | apply below_alloc | apply pw_below_drewN | apply below_drew1) | exact HB.out)⟩⟩
  case round =>
    clear H'
    try clear c1
    try clear p2
    obtain ⟨x5_1, x6_1, rfl, HA, HK1, HO_5, HB⟩ := hrel
    cases gk with
    | zero => exact absurd HA.out (by simp [colonnadelaw13_BloomBuilds.l0])
    | succ k1 =>
      have H := HA.out
      clear HA
      simp only [colonnadelaw13_BloomBuilds.l0] at H
      by_cases c5 : x6_1 < 3
      · rw [if_pos c5] at H
        have c5b0 : decide (x6_1 < 3) = true := decide_eq_true c5
        clear c5
        by_cases c6 : ([] : List (S40)).length + x5_1.length < 3518437208883
        · rw [if_pos c6] at H
          have LMc6 := Aside0.mk c6
          clear c6
          obtain ⟨y295, hy295⟩ : ∃ y_ : List (S40), y_ = (([] : List (S40)) ++ x5_1) := ⟨_, rfl⟩
          replace H : ((colonnaderef13_Build.f k1 a0 y295).bind fun bt298 => ((bloom_Build.f k1 a0 x5_1).bind fun bt302 => (if bt302.2 = bt298.2 then (if (strOfNums bt302.1).toList = (strOfNums bt298.1).toList then ((colonnadelaw13_keptValues.f k1 x5_1 y295).bind fun t306 => (colonnadelaw13_BloomBuilds.j1 k1 a0 x5_1 x6_1 (!t306))) else (colonnadelaw13_BloomBuilds.j1 k1 a0 x5_1 x6_1 true)) else (colonnadelaw13_BloomBuilds.j1 k1 a0 x5_1 x6_1 true)))) = some r := by first | (rw [hy295]; with_reducible exact H) | (have H2_ := (Option.bind_some _ _).symm.trans H; rw [hy295]; with_reducible exact H2_) | (have H2_ := (Option.bind_some _ _).symm.trans H; with_reducible exact H2_) | with_reducible exact H | (rw [hy295]; exact H) | exact H
          have Ny295 := Aside0.mk hy295
          clear hy295
          replace H := Option.bind_eq_some_iff.mp H
          obtain ⟨⟨t298, t299⟩, A70, H⟩ := H
          replace H : ((bloom_Build.f k1 a0 x5_1).bind fun bt302 => (if bt302.2 = t299 then (if (strOfNums bt302.1).toList = (strOfNums t298).toList then ((colonnadelaw13_keptValues.f k1 x5_1 y295).bind fun t306 => (colonnadelaw13_BloomBuilds.j1 k1 a0 x5_1 x6_1 (!t306))) else (colonnadelaw13_BloomBuilds.j1 k1 a0 x5_1 x6_1 true)) else (colonnadelaw13_BloomBuilds.j1 k1 a0 x5_1 x6_1 true))) = some r := H
          have A7 := Aside0.mk A70
          clear A70
          replace H := Option.bind_eq_some_iff.mp H
          obtain ⟨⟨t302, t303⟩, A80, H⟩ := H
          replace H : (if t303 = t299 then (if (strOfNums t302).toList = (strOfNums t298).toList then ((colonnadelaw13_keptValues.f k1 x5_1 y295).bind fun t306 => (colonnadelaw13_BloomBuilds.j1 k1 a0 x5_1 x6_1 (!t306))) else (colonnadelaw13_BloomBuilds.j1 k1 a0 x5_1 x6_1 true)) else (colonnadelaw13_BloomBuilds.j1 k1 a0 x5_1 x6_1 true)) = some r := H
          have A8 := Aside0.mk A80
          clear A80
          have HC9 := Aside0.mk H
          clear H
          obtain ⟨Ao11, co11, eo11⟩ := Kd.Tv_slice HO_5.out
          subst eo11
          go_upto_region 8 with (first | ((with_reducible refine gate_builtin (b := .append) (xs := #[.const (.slice none 0 0), .tmp 19]) rfl ?_); at_builtin; refine Kd.R_append_rows k40 (w0 := w) w.heap.size rfl (.const (.slice none 0 0)) (.tmp 19) 33 40 (.agg #[(.int .i64 0), (.int .i64 0), (.float .f64 0), (.string ⟨#[]⟩)]) 40 rfl Try.underlying33 info40 rfl (by decide) (by omega) (.slice none 0 0) ([] : List (S40)) x5_1 _ _ _ (fun k_ => some k_ ≠ (.slice Ao11 x5_1.length co11 : Value).ownBlock) (fun _ => False) rfl rfl ?aO ?aR (fun _ _ h => h) (fun _ h => h.elim) ?aF ?aB ?aS ?aL ?_; (case aR => repeat (first | exact (Kd.Tv_reads' HO_5.out).2.2 | (with_reducible refine Kd.C_alloc ?_ _) | (with_reducible refine Kd.C_drewN ?_ _) | (with_reducible refine Kd.C_drew ?_))); (case aB => exact (by repeat (first | (with_reducible first | exact HB.out | apply below_alloc | apply pw_below_drewN | apply below_drew1) | exact HB.out))); (case aF => exact (fun k_ hk => Kd.fresh' (Kd.Tv_lt (by (with_reducible repeat (first | apply Kd.Tv_alloc | apply Kd.Tv_drewN | apply Kd.Tv_drew)); exact HO_5.out)) k_ hk)); (case aO => exact ((Kd.R_nil _ _ _ _ (fun k_ => some k_ ≠ (.slice Ao11 x5_1.length co11 : Value).ownBlock)))); (case aS => exact (below_size (by repeat (first | (with_reducible first | exact HB.out | apply below_alloc | apply pw_below_drewN | apply below_drew1) | exact HB.out)))); (case aL => have := LMc6.out; omega); intro v296 w10 ho hb hg hat; rw [← Ny295.out] at ho; have n0_ := Aside0.mk (Kd.Tv_after (Kd.Tv_apart_nil (by (with_reducible repeat (first | apply Kd.Tv_alloc | apply Kd.Tv_drewN | apply Kd.Tv_drew)); exact HO_5.out)) hg hat); have n1_ := Aside0.mk (hb); have n2_ := Aside0.mk (ho); clear HO_5; clear HB; have HO_5 := n0_; have HB := n1_; have HO297 := n2_; clear n0_ n1_ n2_; clear ho hb hg hat; obtain ⟨Ao12, co12, eo12⟩ := Kd.R_slice HO297.out; subst eo12) | ((with_reducible refine gate_callee (f := 15) rfl ?_); refine goesL_ (some 24) rfl rfl Try.func15 (by kernel_rfl) rfl #[.int .i64 a0, .slice Ao12 y295.length co12] rfl (by (try simp only [List.map_toArray, List.map_cons, List.map_nil]); first | done | rfl | (simp only [List.length_drop, List.length_take]; rfl)) ?_; (with_reducible refine (colonnaderef13_Build.calls k1 a0 _ _ y295 t298 t299 _ ?side1 ?side2 A7.out).mono ?_); (case side1 => repeat (first | exact (Kd.R_reads' HO297.out).2.2 | (with_reducible refine Kd.C_alloc ?_ _) | (with_reducible refine Kd.C_drewN ?_ _) | (with_reducible refine Kd.C_drew ?_))); (case side2 => exact (Kd.R_reads' HO297.out).2.1); rintro e w13 ⟨v300, rfl, ho0, hb⟩; refine ⟨_, rfl, ?_⟩; have n0_ := Aside0.mk (Kd.Tv_below (by (with_reducible repeat (first | apply Kd.Tv_alloc | apply Kd.Tv_drewN | apply Kd.Tv_drew)); exact HO_5.out) hb); have n1_ := Aside0.mk (Kd.R_below (by (with_reducible repeat (first | apply Kd.R_alloc | apply Kd.R_drewN | apply Kd.R_drew)); exact HO297.out) hb); have n2_ := Aside0.mk (Kd.R_lower ho0 (below_size (by repeat (first | (with_reducible first | exact HB.out | apply below_alloc | apply pw_below_drewN | apply below_drew1) | exact HB.out)))); have n3_ := Aside0.mk (below_step (by repeat (first | (with_reducible first | exact HB.out | apply below_alloc | apply pw_below_drewN | apply below_drew1) | exact HB.out)) hb); clear HO_5; clear HO297; clear HB; have HO_5 := n0_; have HO297 := n1_; have HO301 := n2_; have HB := n3_; clear n0_ n1_ n2_ n3_; (try clear hb); (try clear hb2); (try clear hk); (try clear hi); (try clear ho0)) | ((with_reducible refine gate_callee (f := 16) rfl ?_); refine goesL_ (some 30) rfl rfl Try.func16 (by kernel_rfl) rfl #[.int .i64 a0, .slice Ao11 x5_1.length co11] rfl (by (try simp only [List.map_toArray, List.map_cons, List.map_nil]); first | done | rfl | (simp only [List.length_drop, List.length_take]; rfl)) ?_; (with_reducible refine (bloom_Build.calls k1 a0 _ _ x5_1 t302 t303 _ ?side1 ?side2 A8.out).mono ?_); (case side1 => repeat (first | exact (Kd.Tv_reads' HO_5.out).2.2 | (with_reducible refine Kd.C_alloc ?_ _) | (with_reducible refine Kd.C_drewN ?_ _) | (with_reducible refine Kd.C_drew ?_))); (case side2 => exact (Kd.Tv_reads' HO_5.out).2.1); rintro e w14 ⟨v304, rfl, ho0, hb⟩; refine ⟨_, rfl, ?_⟩; have n0_ := Aside0.mk (Kd.Tv_below (by (with_reducible repeat (first | apply Kd.Tv_alloc | apply Kd.Tv_drewN | apply Kd.Tv_drew)); exact HO_5.out) hb); have n1_ := Aside0.mk (Kd.R_below (by (with_reducible repeat (first | apply Kd.R_alloc | apply Kd.R_drewN | apply Kd.R_drew)); exact HO297.out) hb); have n2_ := Aside0.mk (Kd.R_elder' (by (with_reducible repeat (first | apply Kd.R_alloc | apply Kd.R_drewN | apply Kd.R_drew)); exact HO301.out) (Kd.R_base ho0) hb); have n3_ := Aside0.mk (Kd.R_lower (Kd.R_new' ho0 (Kd.R_lt (by (with_reducible repeat (first | apply Kd.R_alloc | apply Kd.R_drewN | apply Kd.R_drew)); exact HO301.out))) (below_size (by repeat (first | (with_reducible first | exact HB.out | apply below_alloc | apply pw_below_drewN | apply below_drew1) | exact HB.out)))); have n4_ := Aside0.mk (below_step (by repeat (first | (with_reducible first | exact HB.out | apply below_alloc | apply pw_below_drewN | apply below_drew1) | exact HB.out)) hb); clear HO_5; clear HO297; clear HO301; clear HB; have HO_5 := n0_; have HO297 := n1_; have HO301 := n2_; have HO305 := n3_; have HB := n4_; clear n0_ n1_ n2_ n3_ n4_; (try clear hb); (try clear hb2); (try clear hk); (try clear hi); (try clear ho0)))
          (try simp only [Act.put, List.setIfInBounds_toArray, List.set_cons_zero, List.set_cons_succ])
          go_cut [48] (fun v48 wc => ∃ (kq : Nat) (x48_8 : Bool), v48 = .bool x48_8 ∧ Aside0 (colonnadelaw13_BloomBuilds.j1 kq a0 x5_1 x6_1 x48_8 = some r) ∧ Aside0 (kq ≤ k1) ∧ Aside0 (Kd.Tv k40 40 wc w.heap.size (fun _ => True) (.slice Ao11 x5_1.length co11) x5_1) ∧ Aside0 (Below w.heap.size w wc))
          case first =>
            have H := HC9.out
            clear HC9
            by_cases c15 : t303 = t299
            · rw [if_pos c15] at H
              have c15b0 : (t303 == t299) = true := beq_iff_eq.mpr c15
              have c15b1 : (t303 != t299) = false := bne_eq_false_iff_eq.mpr c15
              clear c15
              (first | rw [c15b0] | (simp only [i64_w, i32_w]; rw [c15b0]) | skip)
              by_cases c16 : (strOfNums t302).toList = (strOfNums t298).toList
              · rw [if_pos c16] at H
                have c16b0 : ((strOfNums t302).toList == (strOfNums t298).toList) = true := beq_iff_eq.mpr c16
                have c16b1 : ((strOfNums t302).toList != (strOfNums t298).toList) = false := bne_eq_false_iff_eq.mpr c16
                clear c16
                replace H := Option.bind_eq_some_iff.mp H
                obtain ⟨t306, A170, H⟩ := H
                replace H : (colonnadelaw13_BloomBuilds.j1 k1 a0 x5_1 x6_1 (!t306)) = some r := H
                have A17 := Aside0.mk A170
                clear A170
                have H' := Aside0.mk H
                clear H
                have hcv18 := own_string (P := Try.prog) Try.underlying24 Try.underlying5 Try.underlying9 (Kd.own_of_R HO305.out)
                have hcv19 := own_string (P := Try.prog) Try.underlying24 Try.underlying5 Try.underlying9 (Kd.own_of_R HO301.out)
                go_wp2_with (first | (go_at_call 17; (with_reducible refine (colonnadelaw13_keptValues.calls k1 _ _ x5_1 _ _ y295 t306 _ ?side1 ?side2 ?side3 ?side4 A17.out).mono ?_); (case side1 => exact (Kd.Tv_readsT (by (with_reducible repeat (first | apply Kd.Tv_alloc | apply Kd.Tv_drewN | apply Kd.Tv_drew)); exact HO_5.out)).2.2); (case side2 => exact (Kd.Tv_readsT HO_5.out).2.1); (case side3 => repeat (first | exact (Kd.R_reads' HO297.out).2.2 | (with_reducible refine Kd.C_alloc ?_ _) | (with_reducible refine Kd.C_drewN ?_ _) | (with_reducible refine Kd.C_drew ?_))); (case side4 => exact (Kd.R_reads' HO297.out).2.1); rintro e w20 ⟨rfl, hb⟩; (try clear A17); have n0_ := Aside0.mk (Kd.Tv_below (by (with_reducible repeat (first | apply Kd.Tv_alloc | apply Kd.Tv_drewN | apply Kd.Tv_drew)); exact HO_5.out) hb); have n1_ := Aside0.mk (Kd.R_below (by (with_reducible repeat (first | apply Kd.R_alloc | apply Kd.R_drewN | apply Kd.R_drew)); exact HO297.out) hb); have n2_ := Aside0.mk (Kd.R_below (by (with_reducible repeat (first | apply Kd.R_alloc | apply Kd.R_drewN | apply Kd.R_drew)); exact HO301.out) hb); have n3_ := Aside0.mk (Kd.R_below (by (with_reducible repeat (first | apply Kd.R_alloc | apply Kd.R_drewN | apply Kd.R_drew)); exact HO305.out) hb); have n4_ := Aside0.mk (below_step (by repeat (first | (with_reducible first | exact HB.out | apply below_alloc | apply pw_below_drewN | apply below_drew1) | exact HB.out)) hb); clear HO_5; clear HO297; clear HO301; clear HO305; clear HB; have HO_5 := n0_; have HO297 := n1_; have HO301 := n2_; have HO305 := n3_; have HB := n4_; clear n0_ n1_ n2_ n3_ n4_; (try clear hb); (try clear hb2); (try clear hk); (try clear hi)))
                go_meet
                case rel => exact ⟨_, (!t306), (by first | rfl | (simp; done) | (simp [*]; done)), H', ⟨by have := HK1.out; first | omega | exact Nat.le_refl _⟩, ⟨by (with_reducible repeat (first | apply Kd.Tv_alloc | apply Kd.Tv_drewN | apply Kd.Tv_drew)); exact Kd.Tv_mono HO_5.out (fun _ hk => trivial)⟩, ⟨by repeat (first | (with_reducible first | exact HB.out | apply below_alloc | apply pw_below_drewN | apply below_drew1) | exact HB.out)⟩⟩
              · rw [if_neg c16] at H
                have c16b0 : ((strOfNums t302).toList == (strOfNums t298).toList) = false := beq_eq_false_iff_ne.mpr c16
                have c16b1 : ((strOfNums t302).toList != (strOfNums t298).toList) = true := bne_iff_ne.mpr c16
                have H' := Aside0.mk H
                clear H
                have hcv21 := own_string (P := Try.prog) Try.underlying24 Try.underlying5 Try.underlying9 (Kd.own_of_R HO305.out)
                have hcv22 := own_string (P := Try.prog) Try.underlying24 Try.underlying5 Try.underlying9 (Kd.own_of_R HO301.out)
                go_wp2
                go_meet
                case rel => exact ⟨_, (true), (by first | rfl | (simp; done) | (simp [*]; done)), H', ⟨by have := HK1.out; first | omega | exact Nat.le_refl _⟩, ⟨by (with_reducible repeat (first | apply Kd.Tv_alloc | apply Kd.Tv_drewN | apply Kd.Tv_drew)); exact Kd.Tv_mono HO_5.out (fun _ hk => trivial)⟩, ⟨by repeat (first | (with_reducible first | exact HB.out | apply below_alloc | apply pw_below_drewN | apply below_drew1) | exact HB.out)⟩⟩
            · rw [if_neg c15] at H
              have c15b0 : (t303 == t299) = false := beq_eq_false_iff_ne.mpr c15
              have c15b1 : (t303 != t299) = true := bne_iff_ne.mpr c15
              (first | rw [c15b0] | (simp only [i64_w, i32_w]; rw [c15b0]) | skip)
              have H' := Aside0.mk H
              clear H
              go_wp2
              go_meet
              case rel => exact ⟨_, (true), (by first | rfl | (simp; done) | (simp [*]; done)), H', ⟨by have := HK1.out; first | omega | exact Nat.le_refl _⟩, ⟨by (with_reducible repeat (first | apply Kd.Tv_alloc | apply Kd.Tv_drewN | apply Kd.Tv_drew)); exact Kd.Tv_mono HO_5.out (fun _ hk => trivial)⟩, ⟨by repeat (first | (with_reducible first | exact HB.out | apply below_alloc | apply pw_below_drewN | apply below_drew1) | exact HB.out)⟩⟩
          case rest =>
            clear HC9
            try clear c1
            try clear hcv1
            try clear p2
            try clear hcv2
            try clear c5
            try clear c5b0
            try clear c6
            try clear c14
            try clear c15
            try clear c15b0
            try clear c15b1
            try clear c16
            try clear c16b0
            try clear c16b1
            try clear hcv18
            try clear hcv19
            try clear hcv21
            try clear hcv22
            try clear p2
            obtain ⟨kq, x48_8, rfl, HA, HJ8, HO_5, HB⟩ := hcut
            cases kq with
            | zero => exact absurd HA.out (by simp [colonnadelaw13_BloomBuilds.j1])
            | succ kj8 =>
              have H := HA.out
              clear HA
              simp only [colonnadelaw13_BloomBuilds.j1] at H
              by_cases c23 : x48_8 = true
              · subst c23
                have H1 : (some false) = some r := by rw [if_pos rfl] at H; exact H
                clear H
                have H := H1
                clear H1
                obtain rfl := Option.some.inj H
                go_wp2
                go_ret
                exact ⟨by first | rfl | (simp [errW_none, errW_some] <;> rfl) | (simp [*, errW_none, errW_some] <;> rfl), by repeat (first | (with_reducible first | exact HB.out | apply below_alloc | apply pw_below_drewN | apply below_drew1) | exact HB.out)⟩
              · replace c23 := Bool.eq_false_iff.mpr c23
                subst c23
                have H1 : (colonnadelaw13_BloomBuilds.l1 kj8 a0 x5_1 x6_1 0) = some r := by rw [if_neg (show ¬ (false = true) by decide)] at H; exact H
                clear H
                have H := H1
                clear H1
                have H' := Aside0.mk H
                clear H
                go_wp2
                go_loopg [12] kj8 (fun kq v12 w' => ∃ (x5_3 : List (S40)) (x12_3 : Int), v12 = .int .i64 x12_3 ∧ Aside0 (colonnadelaw13_BloomBuilds.l1 kq a0 x5_3 x6_1 x12_3 = some r) ∧ Aside0 (kq ≤ kj8) ∧ Aside0 (Kd.Tv k40 40 w' w.heap.size (fun _ => True) (.slice Ao11 x5_1.length co11) x5_3) ∧ Aside0 (Below w.heap.size w w'))
                case atStart => exact ⟨(x5_1), (0), (by first | rfl | (simp; done) | (simp [*]; done)), H', ⟨Nat.le_refl _⟩, ⟨by (with_reducible repeat (first | apply Kd.Tv_alloc | apply Kd.Tv_drewN | apply Kd.Tv_drew)); exact HO_5.out⟩, ⟨by repeat (first | (with_reducible first | exact HB.out | apply below_alloc | apply pw_below_drewN | apply below_drew1) | exact HB.out)⟩⟩
                case round =>
                  clear H'
                  try clear c1
                  try clear hcv1
                  try clear c2
                  try clear p2
                  try clear hcv2
                  try clear c5
                  try clear c5b0
                  try clear c6
                  try clear c14
                  try clear c15
                  try clear c15b0
                  try clear c15b1
                  try clear c16
                  try clear c16b0
                  try clear c16b1
                  try clear hcv18
                  try clear hcv19
                  try clear hcv21
                  try clear hcv22
                  try clear c23
                  try clear p2
                  obtain ⟨x5_3, x12_3, rfl, HA, HK3, HO_5, HB⟩ := hrel
                  have hl5_3 := (Kd.Tv_reads' HO_5.out).1
                  rw [hl5_3] at HO_5
                  (try simp only [hl5_3])
                  cases gk with
                  | zero => exact absurd HA.out (by simp [colonnadelaw13_BloomBuilds.l1])
                  | succ k3 =>
                    have H := HA.out
                    clear HA
                    simp only [colonnadelaw13_BloomBuilds.l1] at H
                    by_cases c24 : x12_3 < (x5_3.length : Int)
                    · rw [if_pos c24] at H
                      have c24b0 : decide (x12_3 < (x5_3.length : Int)) = true := decide_eq_true c24
                      clear c24
                      by_cases c25 : 0 ≤ x12_3
                      · rw [if_pos c25] at H
                        have c25b0 : decide (0 ≤ x12_3) = true := decide_eq_true c25
                        clear c25
                        by_cases c26 : ((rd_T40 x5_3 x12_3).f0) = 1
                        · rw [if_pos c26] at H
                          have c26b0 : (((rd_T40 x5_3 x12_3).f0) == 1) = true := beq_iff_eq.mpr c26
                          have c26b1 : (((rd_T40 x5_3 x12_3).f0) != 1) = false := bne_eq_false_iff_eq.mpr c26
                          clear c26
                          obtain ⟨y309, hy309⟩ : ∃ y_ : List (S40), y_ = (x5_3.set (x12_3 : Int).toNat (⟨(rd_T40 x5_3 x12_3).f0, wrap64 (((rd_T40 x5_3 x12_3).f1) + 1), (rd_T40 x5_3 x12_3).f2, (rd_T40 x5_3 x12_3).f3⟩ : S40)) := ⟨_, rfl⟩
                          replace H : (colonnadelaw13_BloomBuilds.l1 k3 a0 y309 x6_1 (wrap64 (x12_3 + 1))) = some r := by first | (rw [hy309]; with_reducible exact H) | (have H2_ := (Option.bind_some _ _).symm.trans H; rw [hy309]; with_reducible exact H2_) | (have H2_ := (Option.bind_some _ _).symm.trans H; with_reducible exact H2_) | with_reducible exact H | (rw [hy309]; exact H) | exact H
                          have Ny309 := Aside0.mk hy309
                          clear hy309
                          have H' := Aside0.mk H
                          clear H
                          have p307 : 0 ≤ (x12_3 : Int) := of_decide_eq_true (by first | (with_reducible assumption) | assumption)
                          have q307 : x12_3 < (x5_3.length : Int) := of_decide_eq_true (by first | (with_reducible assumption) | assumption)
                          obtain ⟨ad307, e307, hx307_0, hx307_1, hx307_2, hx307_3⟩ := at_T40 (Kd.Tv_reads' HO_5.out).2.2 x12_3 p307 q307
                          cases e307
                          replace p307 := eq_true p307
                          replace q307 := eq_true q307
                          have p308 : 0 ≤ (x12_3 : Int) := of_decide_eq_true (by first | (with_reducible assumption) | assumption)
                          have q308 : x12_3 < (x5_3.length : Int) := of_decide_eq_true (by first | (with_reducible assumption) | assumption)
                          obtain ⟨ad308, e308, hx308_0, hx308_1, hx308_2, hx308_3⟩ := at_T40 (Kd.Tv_reads' HO_5.out).2.2 x12_3 p308 q308
                          obtain rfl : ad307 = ad308 := (by injection e308)
                          replace p308 := eq_true p308
                          replace q308 := eq_true q308
                          have p27 : 0 ≤ (x12_3 : Int) := of_decide_eq_true (by first | (with_reducible assumption) | assumption)
                          have q27 : (x12_3 : Int) < ((x5_3.length : Int) : Int) := of_decide_eq_true (by first | (with_reducible assumption) | assumption)
                          obtain ⟨go27, co27, eo27, gb27, gl27, cl27, HG27⟩ := Kd.Tv_form HO_5.out (by omega)
                          (first | cases eo27 | (injection eo27 with ea_ en_ ec_; (first | subst ea_ | (injection ea_ with ea_; subst ea_)); subst ec_; clear en_))
                          have GB27 := Aside0.mk gb27
                          have GG27 := Aside0.mk HG27
                          clear gb27 gl27 HG27
                          (first | simp only [add_plain] at hx307_0 | skip)
                          (first | simp only [add_plain] at hx307_1 | skip)
                          (first | simp only [add_plain] at hx307_2 | skip)
                          (first | simp only [add_plain] at hx307_3 | skip)
                          (first | simp only [add_plain] at hx308_0 | skip)
                          (first | simp only [add_plain] at hx308_1 | skip)
                          (first | simp only [add_plain] at hx308_2 | skip)
                          (first | simp only [add_plain] at hx308_3 | skip)
                          obtain ⟨ce27, hcl27, hM27, hcc27, hfr27⟩ := Kd.Tv_elem HO_5.out z40 (x12_3 : Int) p27 q27
                          obtain rfl := k40_openM hM27
                          have hx27_0 : wr.cell? ⟨go27, (x12_3 : Int).toNat * 4, none⟩ = some (.int .i64 ((rd_T40 x5_3 x12_3).f0)) := hcc27 0 _ rfl
                          have hx27_1 : wr.cell? ⟨go27, (x12_3 : Int).toNat * 4 + 1, none⟩ = some (.int .i64 ((rd_T40 x5_3 x12_3).f1)) := hcc27 1 _ rfl
                          have hx27_2 : wr.cell? ⟨go27, (x12_3 : Int).toNat * 4 + 2, none⟩ = some (.float .f64 ((rd_T40 x5_3 x12_3).f2)) := hcc27 2 _ rfl
                          have hx27_3 : wr.cell? ⟨go27, (x12_3 : Int).toNat * 4 + 3, none⟩ = some (.string ((rd_T40 x5_3 x12_3).f3)) := hcc27 3 _ rfl
                          have hf27_0 : wr.frozen? ⟨go27, (x12_3 : Int).toNat * 4, none⟩ = false := hfr27 0
                          have hf27_1 : wr.frozen? ⟨go27, (x12_3 : Int).toNat * 4 + 1, none⟩ = false := hfr27 1
                          have hf27_2 : wr.frozen? ⟨go27, (x12_3 : Int).toNat * 4 + 2, none⟩ = false := hfr27 2
                          have hf27_3 : wr.frozen? ⟨go27, (x12_3 : Int).toNat * 4 + 3, none⟩ = false := hfr27 3
                          clear hcl27 hcc27 hfr27 hM27
                          replace p27 := eq_true p27
                          replace q27 := eq_true q27
                          have HX28 := Aside0.mk (show Kd.Tv k40 40 wr w.heap.size (fun _ => True) (.slice (some ⟨go27, 0, none⟩) x5_3.length co11) x5_3 from (by (with_reducible repeat (first | apply Kd.Tv_alloc | apply Kd.Tv_drewN | apply Kd.Tv_drew)); exact HO_5.out))
                          obtain ⟨ce28, hcl28, hM28, hcc28, hfr28⟩ := Kd.Tv_elem HX28.out z40 (x12_3 : Int) (of_decide_eq_true (by first | (with_reducible assumption) | assumption)) (by have h_ : (x12_3 : Int) < ((x5_3.length : Int) : Int) := of_decide_eq_true (by first | (with_reducible assumption) | assumption); first | exact h_ | (have e_ := (Kd.Tv_reads' HO_5.out).1; omega) | simpa using h_)
                          obtain rfl := k40_openM hM28
                          have HP28 := Kd.Tv_seg HX28.out (x12_3 : Int) (of_decide_eq_true (by first | (with_reducible assumption) | assumption)) (by have h_ : (x12_3 : Int) < ((x5_3.length : Int) : Int) := of_decide_eq_true (by first | (with_reducible assumption) | assumption); first | exact h_ | (have e_ := (Kd.Tv_reads' HO_5.out).1; omega) | simpa using h_) (seg := [.int .i64 (wrap64 (((rd_T40 x5_3 x12_3).f1) + 1))]) (j := 1) hcl28 hcc28 (show 2 ≤ 4 from by decide) (x' := (⟨(rd_T40 x5_3 x12_3).f0, wrap64 (((rd_T40 x5_3 x12_3).f1) + 1), (rd_T40 x5_3 x12_3).f2, (rd_T40 x5_3 x12_3).f3⟩ : S40)) (k40_mkM _ _ _ (⟨(rd_T40 x5_3 x12_3).f0, wrap64 (((rd_T40 x5_3 x12_3).f1) + 1), (rd_T40 x5_3 x12_3).f2, (rd_T40 x5_3 x12_3).f3⟩ : S40) ) (fun _ hk => hk)
                          have hx28_1 := hcc28 1 _ rfl
                          (try simp only [show (k40).sz = 4 from rfl, Nat.mul_one, Nat.add_zero] at hx28_1)
                          have hf28_1 := hfr28 1
                          (try simp only [show (k40).sz = 4 from rfl, Nat.mul_one, Nat.add_zero] at hf28_1)
                          clear hcl28 hcc28 hfr28 hM28
                          go_wp2_with (first | ((with_reducible refine gate_store (t := 2) (p := 70) rfl ?_); refine store_event (t := 2) (p := 70) (v := ?vo_w29) (w1 := (wr.setCell ⟨go27, (x12_3 : Int).toNat * 4 + 1, none⟩ (.int .i64 (wrap64 (((rd_T40 x5_3 x12_3).f1) + 1))))) ?hg ?ho ?hn ?hr ?_; (case ho => rfl); (case hg => rfl); (case hn => rfl); (case hr => first | (go_simp; done) | (go_simp; rfl)); intro w29 hw; have hg : wr.grownBy w29 (some go27) := (by rw [hw]; exact HP28.2); have hp_ : Kd.Tv k40 40 w29 w.heap.size (fun _ => True) (.slice (some ⟨go27, 0, none⟩) x5_3.length co11) y309 := (by rw [hw, Ny309.out]; exact HP28.1); clear HP28; have n0_ := Aside0.mk (hp_); have n1_ := Aside0.mk ((by rw [hw]; exact below_set (HB.out) GB27.out : Below w.heap.size w w29)); clear HO_5; clear HB; have HO_5 := n0_; have HB := n1_; clear n0_ n1_; clear hg hw hp_))
                          (try simp only [← hl5_3])
                          go_roundg k3
                          case measure => have := HK1.out; have := HJ8.out; have := HK3.out; omega
                          case rel => exact ⟨(y309), (wrap64 (x12_3 + 1)), (by first | rfl | (simp; done) | (simp [*]; done)), H', ⟨by have := HK1.out; have := HJ8.out; have := HK3.out; omega⟩, ⟨by (try simp only [hl5_3]); (with_reducible repeat (first | apply Kd.Tv_alloc | apply Kd.Tv_drewN | apply Kd.Tv_drew)); exact HO_5.out⟩, ⟨by repeat (first | (with_reducible first | exact HB.out | apply below_alloc | apply pw_below_drewN | apply below_drew1) | exact HB.out)⟩⟩
                        · rw [if_neg c26] at H
                          have c26b0 : (((rd_T40 x5_3 x12_3).f0) == 1) = false := beq_eq_false_iff_ne.mpr c26
                          have c26b1 : (((rd_T40 x5_3 x12_3).f0) != 1) = true := bne_iff_ne.mpr c26
                          by_cases c30 : ((rd_T40 x5_3 x12_3).f0) = 2
                          · rw [if_pos c30] at H
                            have c30b0 : (((rd_T40 x5_3 x12_3).f0) == 2) = true := beq_iff_eq.mpr c30
                            have c30b1 : (((rd_T40 x5_3 x12_3).f0) != 2) = false := bne_eq_false_iff_eq.mpr c30
                            clear c30
                            by_cases c31 : ((rd_T40 x5_3 x12_3).f3).size + 1 ≤ 9223372036854775807
                            · rw [if_pos c31] at H
                              have c31b0 := eq_true c31
                              have c31b1 : decide (((rd_T40 x5_3 x12_3).f3).size + 1 ≤ 9223372036854775807) = true := decide_eq_true c31
                              try have c31b2 : (9223372036854775807 < ((rd_T40 x5_3 x12_3).f3).size + 1) = False := eq_false (Nat.not_lt.2 c31)
                              obtain ⟨y312, hy312⟩ : ∃ y_ : List (S40), y_ = (x5_3.set (x12_3 : Int).toNat (⟨(rd_T40 x5_3 x12_3).f0, (rd_T40 x5_3 x12_3).f1, (rd_T40 x5_3 x12_3).f2, ((rd_T40 x5_3 x12_3).f3) ++ (⟨#[46]⟩ : ByteArray)⟩ : S40)) := ⟨_, rfl⟩
                              replace H : (colonnadelaw13_BloomBuilds.l1 k3 a0 y312 x6_1 (wrap64 (x12_3 + 1))) = some r := by first | (rw [hy312]; with_reducible exact H) | (have H2_ := (Option.bind_some _ _).symm.trans H; rw [hy312]; with_reducible exact H2_) | (have H2_ := (Option.bind_some _ _).symm.trans H; with_reducible exact H2_) | with_reducible exact H | (rw [hy312]; exact H) | exact H
                              have Ny312 := Aside0.mk hy312
                              clear hy312
                              have H' := Aside0.mk H
                              clear H
                              have p307 : 0 ≤ (x12_3 : Int) := of_decide_eq_true (by first | (with_reducible assumption) | assumption)
                              have q307 : x12_3 < (x5_3.length : Int) := of_decide_eq_true (by first | (with_reducible assumption) | assumption)
                              obtain ⟨ad307, e307, hx307_0, hx307_1, hx307_2, hx307_3⟩ := at_T40 (Kd.Tv_reads' HO_5.out).2.2 x12_3 p307 q307
                              cases e307
                              replace p307 := eq_true p307
                              replace q307 := eq_true q307
                              have p310 : 0 ≤ (x12_3 : Int) := of_decide_eq_true (by first | (with_reducible assumption) | assumption)
                              have q310 : x12_3 < (x5_3.length : Int) := of_decide_eq_true (by first | (with_reducible assumption) | assumption)
                              obtain ⟨ad310, e310, hx310_0, hx310_1, hx310_2, hx310_3⟩ := at_T40 (Kd.Tv_reads' HO_5.out).2.2 x12_3 p310 q310
                              obtain rfl : ad307 = ad310 := (by injection e310)
                              replace p310 := eq_true p310
                              replace q310 := eq_true q310
                              have p311 : 0 ≤ (x12_3 : Int) := of_decide_eq_true (by first | (with_reducible assumption) | assumption)
                              have q311 : x12_3 < (x5_3.length : Int) := of_decide_eq_true (by first | (with_reducible assumption) | assumption)
                              obtain ⟨ad311, e311, hx311_0, hx311_1, hx311_2, hx311_3⟩ := at_T40 (Kd.Tv_reads' HO_5.out).2.2 x12_3 p311 q311
                              obtain rfl : ad307 = ad311 := (by injection e311)
                              replace p311 := eq_true p311
                              replace q311 := eq_true q311
                              have p32 : 0 ≤ (x12_3 : Int) := of_decide_eq_true (by first | (with_reducible assumption) | assumption)
                              have q32 : (x12_3 : Int) < ((x5_3.length : Int) : Int) := of_decide_eq_true (by first | (with_reducible assumption) | assumption)
                              obtain ⟨go32, co32, eo32, gb32, gl32, cl32, HG32⟩ := Kd.Tv_form HO_5.out (by omega)
                              (first | cases eo32 | (injection eo32 with ea_ en_ ec_; (first | subst ea_ | (injection ea_ with ea_; subst ea_)); subst ec_; clear en_))
                              have GB32 := Aside0.mk gb32
                              have GG32 := Aside0.mk HG32
                              clear gb32 gl32 HG32
                              (first | simp only [add_plain] at hx307_0 | skip)
                              (first | simp only [add_plain] at hx307_1 | skip)
                              (first | simp only [add_plain] at hx307_2 | skip)
                              (first | simp only [add_plain] at hx307_3 | skip)
                              (first | simp only [add_plain] at hx310_0 | skip)
                              (first | simp only [add_plain] at hx310_1 | skip)
                              (first | simp only [add_plain] at hx310_2 | skip)
                              (first | simp only [add_plain] at hx310_3 | skip)
                              (first | simp only [add_plain] at hx311_0 | skip)
                              (first | simp only [add_plain] at hx311_1 | skip)
                              (first | simp only [add_plain] at hx311_2 | skip)
                              (first | simp only [add_plain] at hx311_3 | skip)
                              obtain ⟨ce32, hcl32, hM32, hcc32, hfr32⟩ := Kd.Tv_elem HO_5.out z40 (x12_3 : Int) p32 q32
                              obtain rfl := k40_openM hM32
                              have hx32_0 : wr.cell? ⟨go32, (x12_3 : Int).toNat * 4, none⟩ = some (.int .i64 ((rd_T40 x5_3 x12_3).f0)) := hcc32 0 _ rfl
                              have hx32_1 : wr.cell? ⟨go32, (x12_3 : Int).toNat * 4 + 1, none⟩ = some (.int .i64 ((rd_T40 x5_3 x12_3).f1)) := hcc32 1 _ rfl
                              have hx32_2 : wr.cell? ⟨go32, (x12_3 : Int).toNat * 4 + 2, none⟩ = some (.float .f64 ((rd_T40 x5_3 x12_3).f2)) := hcc32 2 _ rfl
                              have hx32_3 : wr.cell? ⟨go32, (x12_3 : Int).toNat * 4 + 3, none⟩ = some (.string ((rd_T40 x5_3 x12_3).f3)) := hcc32 3 _ rfl
                              have hf32_0 : wr.frozen? ⟨go32, (x12_3 : Int).toNat * 4, none⟩ = false := hfr32 0
                              have hf32_1 : wr.frozen? ⟨go32, (x12_3 : Int).toNat * 4 + 1, none⟩ = false := hfr32 1
                              have hf32_2 : wr.frozen? ⟨go32, (x12_3 : Int).toNat * 4 + 2, none⟩ = false := hfr32 2
                              have hf32_3 : wr.frozen? ⟨go32, (x12_3 : Int).toNat * 4 + 3, none⟩ = false := hfr32 3
                              clear hcl32 hcc32 hfr32 hM32
                              replace p32 := eq_true p32
                              replace q32 := eq_true q32
                              have HX33 := Aside0.mk (show Kd.Tv k40 40 wr w.heap.size (fun _ => True) (.slice (some ⟨go32, 0, none⟩) x5_3.length co11) x5_3 from (by (with_reducible repeat (first | apply Kd.Tv_alloc | apply Kd.Tv_drewN | apply Kd.Tv_drew)); exact HO_5.out))
                              obtain ⟨ce33, hcl33, hM33, hcc33, hfr33⟩ := Kd.Tv_elem HX33.out z40 (x12_3 : Int) (of_decide_eq_true (by first | (with_reducible assumption) | assumption)) (by have h_ : (x12_3 : Int) < ((x5_3.length : Int) : Int) := of_decide_eq_true (by first | (with_reducible assumption) | assumption); first | exact h_ | (have e_ := (Kd.Tv_reads' HO_5.out).1; omega) | simpa using h_)
                              obtain rfl := k40_openM hM33
                              have HP33 := Kd.Tv_seg HX33.out (x12_3 : Int) (of_decide_eq_true (by first | (with_reducible assumption) | assumption)) (by have h_ : (x12_3 : Int) < ((x5_3.length : Int) : Int) := of_decide_eq_true (by first | (with_reducible assumption) | assumption); first | exact h_ | (have e_ := (Kd.Tv_reads' HO_5.out).1; omega) | simpa using h_) (seg := [.string (((rd_T40 x5_3 x12_3).f3) ++ (⟨#[46]⟩ : ByteArray))]) (j := 3) hcl33 hcc33 (show 4 ≤ 4 from by decide) (x' := (⟨(rd_T40 x5_3 x12_3).f0, (rd_T40 x5_3 x12_3).f1, (rd_T40 x5_3 x12_3).f2, ((rd_T40 x5_3 x12_3).f3) ++ (⟨#[46]⟩ : ByteArray)⟩ : S40)) (k40_mkM _ _ _ (⟨(rd_T40 x5_3 x12_3).f0, (rd_T40 x5_3 x12_3).f1, (rd_T40 x5_3 x12_3).f2, ((rd_T40 x5_3 x12_3).f3) ++ (⟨#[46]⟩ : ByteArray)⟩ : S40) ) (fun _ hk => hk)
                              have hx33_3 := hcc33 3 _ rfl
                              (try simp only [show (k40).sz = 4 from rfl, Nat.mul_one, Nat.add_zero] at hx33_3)
                              have hf33_3 := hfr33 3
                              (try simp only [show (k40).sz = 4 from rfl, Nat.mul_one, Nat.add_zero] at hf33_3)
                              clear hcl33 hcc33 hfr33 hM33
                              go_wp2_with (first | ((with_reducible refine gate_store (t := 9) (p := 86) rfl ?_); refine store_event (t := 9) (p := 86) (v := ?vo_w34) (w1 := (wr.setCell ⟨go32, (x12_3 : Int).toNat * 4 + 3, none⟩ (.string (((rd_T40 x5_3 x12_3).f3) ++ (⟨#[46]⟩ : ByteArray))))) ?hg ?ho ?hn ?hr ?_; (case ho => rfl); (case hg => rfl); (case hn => rfl); (case hr => first | (go_simp; done) | (go_simp; rfl)); intro w34 hw; have hg : wr.grownBy w34 (some go32) := (by rw [hw]; exact HP33.2); have hp_ : Kd.Tv k40 40 w34 w.heap.size (fun _ => True) (.slice (some ⟨go32, 0, none⟩) x5_3.length co11) y312 := (by rw [hw, Ny312.out]; exact HP33.1); clear HP33; have n0_ := Aside0.mk (hp_); have n1_ := Aside0.mk ((by rw [hw]; exact below_set (HB.out) GB32.out : Below w.heap.size w w34)); clear HO_5; clear HB; have HO_5 := n0_; have HB := n1_; clear n0_ n1_; clear hg hw hp_))
                              (try simp only [← hl5_3])
                              go_roundg k3
                              case measure => have := HK1.out; have := HJ8.out; have := HK3.out; omega
                              case rel => exact ⟨(y312), (wrap64 (x12_3 + 1)), (by first | rfl | (simp; done) | (simp [*]; done)), H', ⟨by have := HK1.out; have := HJ8.out; have := HK3.out; omega⟩, ⟨by (try simp only [hl5_3]); (with_reducible repeat (first | apply Kd.Tv_alloc | apply Kd.Tv_drewN | apply Kd.Tv_drew)); exact HO_5.out⟩, ⟨by repeat (first | (with_reducible first | exact HB.out | apply below_alloc | apply pw_below_drewN | apply below_drew1) | exact HB.out)⟩⟩
                            · rw [if_neg c31] at H
                              exact absurd H (by simp)
                          · rw [if_neg c30] at H
                            have c30b0 : (((rd_T40 x5_3 x12_3).f0) == 2) = false := beq_eq_false_iff_ne.mpr c30
                            have c30b1 : (((rd_T40 x5_3 x12_3).f0) != 2) = true := bne_iff_ne.mpr c30
                            have H' := Aside0.mk H
                            clear H
                            have p307 : 0 ≤ (x12_3 : Int) := of_decide_eq_true (by first | (with_reducible assumption) | assumption)
                            have q307 : x12_3 < (x5_3.length : Int) := of_decide_eq_true (by first | (with_reducible assumption) | assumption)
                            obtain ⟨ad307, e307, hx307_0, hx307_1, hx307_2, hx307_3⟩ := at_T40 (Kd.Tv_reads' HO_5.out).2.2 x12_3 p307 q307
                            cases e307
                            replace p307 := eq_true p307
                            replace q307 := eq_true q307
                            have p310 : 0 ≤ (x12_3 : Int) := of_decide_eq_true (by first | (with_reducible assumption) | assumption)
                            have q310 : x12_3 < (x5_3.length : Int) := of_decide_eq_true (by first | (with_reducible assumption) | assumption)
                            obtain ⟨ad310, e310, hx310_0, hx310_1, hx310_2, hx310_3⟩ := at_T40 (Kd.Tv_reads' HO_5.out).2.2 x12_3 p310 q310
                            obtain rfl : ad307 = ad310 := (by injection e310)
                            replace p310 := eq_true p310
                            replace q310 := eq_true q310
                            go_wp2
                            (try simp only [← hl5_3])
                            go_roundg k3
                            case measure => have := HK1.out; have := HJ8.out; have := HK3.out; omega
                            case rel => exact ⟨(x5_3), (wrap64 (x12_3 + 1)), (by first | rfl | (simp; done) | (simp [*]; done)), H', ⟨by have := HK1.out; have := HJ8.out; have := HK3.out; omega⟩, ⟨by (try simp only [hl5_3]); (with_reducible repeat (first | apply Kd.Tv_alloc | apply Kd.Tv_drewN | apply Kd.Tv_drew)); exact HO_5.out⟩, ⟨by repeat (first | (with_reducible first | exact HB.out | apply below_alloc | apply pw_below_drewN | apply below_drew1) | exact HB.out)⟩⟩
                      · rw [if_neg c25] at H
                        exact absurd H (by simp)
                    · rw [if_neg c24] at H
                      have c24b0 : decide (x12_3 < (x5_3.length : Int)) = false := decide_eq_false c24
                      (try simp only [hl5_3] at c24b0)
                      clear c24
                      have H' := Aside0.mk H
                      clear H
                      go_wp2
                      (try simp only [← hl5_3])
                      go_roundg k3
                      case measure => have := HK1.out; have := HJ8.out; have := HK3.out; omega
                      case rel => exact ⟨(x5_3), (wrap64 (x6_1 + 1)), (by first | rfl | (simp; done) | (simp [*]; done)), H', ⟨by have := HK1.out; have := HJ8.out; have := HK3.out; omega⟩, ⟨by (try simp only [hl5_3]); (with_reducible repeat (first | apply Kd.Tv_alloc | apply Kd.Tv_drewN | apply Kd.Tv_drew)); exact HO_5.out⟩, ⟨by repeat (first | (with_reducible first | exact HB.out | apply below_alloc | apply pw_below_drewN | apply below_drew1) | exact HB.out)⟩⟩
        · rw [if_neg c6] at H
          exact absurd H (by simp)
      · rw [if_neg c5] at H
        have c5b0 : decide (x6_1 < 3) = false := decide_eq_false c5
        clear c5
        obtain rfl := Option.some.inj H
        go_wp2
        go_ret
        exact ⟨by first | rfl | (simp [errW_none, errW_some] <;> rfl) | (simp [*, errW_none, errW_some] <;> rfl), by repeat (first | (with_reducible first | exact HB.out | apply below_alloc | apply pw_below_drewN | apply below_drew1) | exact HB.out)⟩

end Go.Proofs.Ytgmeefgihidomaa.Pa
