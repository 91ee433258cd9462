-- Written by xprint.py, a program of this session, over the kit's print. Not trusted: Lean checks it.
import Derived.Test.YtdiabhfphonciaaPa0
import Derived.Test.YtdiabhfphonciaaPa19
import Derived.Test.YtdiabhfphonciaaCk
import Derived.Test.YtdiabhfphonciaaKn
namespace Go.Proofs.Ytdiabhfphonciaa.Pa
open Go.RowKit Go.Proofs.YtdiabhfphonciaaW.PrintWords Go.Proofs.YtdiabhfphonciaaW.PrintLast Go.Proofs.YtdiabhfphonciaaW.PrintMore
attribute [local go_sem] max2_int min2_int max_two min_two max_three min_three max_four min_four   -- for this text's walks alone
attribute [local go_sem] run_store_float cmp_feq cmp_fne cmp_flt cmp_fle cmp_fgt cmp_fge un_fneg equalIn_feq run_fop run_fint run_freal cmp_sgt
set_option linter.unusedVariables false
set_option linter.unusedSimpArgs false

/-! ### colonnadelaw15_SchemaRules: function 8 -/
mutual
def colonnadelaw15_SchemaRules.j0 : Nat → List (S42) → Bool → Option (Bool)
  | 0, _, _ => none
  | k + 1, x0, x3 => colonnadelaw15_SchemaRules.l0 k x0 x3 0
def colonnadelaw15_SchemaRules.l0 : Nat → List (S42) → Bool → Int → Option (Bool)
  | 0, _, _, _ => none
  | k + 1, x0, x3, x4 => if x4 < (x0.length : Int) then (if 0 ≤ x4 then ((colonnadelaw15_letters.f k ((rd_T42 x0 x4).f0)).bind fun t276 => (if t276 = true then (if ((rd_T42 x0 x4).f1) = 1 then (colonnadelaw15_SchemaRules.j2 k x0 x3 x4 true ((rd_T42 x0 x4).f0) ((rd_T42 x0 x4).f1) ((rd_T42 x0 x4).f2)) else (colonnadelaw15_SchemaRules.j2 k x0 x3 x4 (((rd_T42 x0 x4).f1) == 2) ((rd_T42 x0 x4).f0) ((rd_T42 x0 x4).f1) ((rd_T42 x0 x4).f2))) else (colonnadelaw15_SchemaRules.j2 k x0 x3 x4 false ((rd_T42 x0 x4).f0) ((rd_T42 x0 x4).f1) ((rd_T42 x0 x4).f2)))) else (none)) else ((schema_Check.f k x0).bind fun t273 => (if ((t273 == 0) == x3) = true then (if t273 = 0 then (some true) else (some (t273 == 150))) else (some false)))
def colonnadelaw15_SchemaRules.j2 : Nat → List (S42) → Bool → Int → Bool → ByteArray → Int → Bool → Option (Bool)
  | 0, _, _, _, _, _, _, _ => none
  | k + 1, x0, x3, x4, x6, x276000, x276001, x276002 => (schema_Check.f k (([(⟨x276000, x276001, x276002⟩ : S42)] : List (S42)))).bind fun t280 => (if ((t280 == 0) != x6) = true then (some false) else (if x3 = true then (colonnadelaw15_SchemaRules.j3 k x0 x6 x4 x276000 x276001 x276002) else (colonnadelaw15_SchemaRules.j3 k x0 false x4 x276000 x276001 x276002)))
def colonnadelaw15_SchemaRules.j3 : Nat → List (S42) → Bool → Int → ByteArray → Int → Bool → Option (Bool)
  | 0, _, _, _, _, _, _ => none
  | k + 1, x0, x3, x4, x276000, x276001, x276002 => colonnadelaw15_SchemaRules.l1 k x0 x3 x4 0 x276000 x276001 x276002
def colonnadelaw15_SchemaRules.l1 : Nat → List (S42) → Bool → Int → Int → ByteArray → Int → Bool → Option (Bool)
  | 0, _, _, _, _, _, _, _ => none
  | k + 1, x0, x3, x4, x7, x276000, x276001, x276002 => if x7 < x4 then (if x3 = true then (if 0 ≤ x7 then (if x7 < (x0.length : Int) then (colonnadelaw15_SchemaRules.l1 k x0 (((rd_T42 x0 x7).f0).toList != x276000.toList) x4 (wrap64 (x7 + 1)) x276000 x276001 x276002) else (none)) else (none)) else (colonnadelaw15_SchemaRules.l1 k x0 false x4 (wrap64 (x7 + 1)) x276000 x276001 x276002)) else (colonnadelaw15_SchemaRules.l0 k x0 x3 (wrap64 (x4 + 1)))
end
def colonnadelaw15_SchemaRules.f (k : Nat) (l0 : List (S42)) : Option (Bool) := (colonnadelaw15_known.f).bind fun t272 => (if t272 = true then (if (l0.length : Int) ≥ 1 then (colonnadelaw15_SchemaRules.j0 k l0 (decide ((l0.length : Int) ≤ 256))) else (colonnadelaw15_SchemaRules.j0 k l0 false)) else (some false))
theorem colonnadelaw15_SchemaRules.mono_l : ∀ k, (∀ y0 y1, LeO (colonnadelaw15_SchemaRules.j0 k y0 y1) (colonnadelaw15_SchemaRules.j0 (k + 1) y0 y1)) ∧ (∀ y0 y1 y2, LeO (colonnadelaw15_SchemaRules.l0 k y0 y1 y2) (colonnadelaw15_SchemaRules.l0 (k + 1) y0 y1 y2)) ∧ (∀ y0 y1 y2 y3 y4 y5 y6, LeO (colonnadelaw15_SchemaRules.j2 k y0 y1 y2 y3 y4 y5 y6) (colonnadelaw15_SchemaRules.j2 (k + 1) y0 y1 y2 y3 y4 y5 y6)) ∧ (∀ y0 y1 y2 y3 y4 y5, LeO (colonnadelaw15_SchemaRules.j3 k y0 y1 y2 y3 y4 y5) (colonnadelaw15_SchemaRules.j3 (k + 1) y0 y1 y2 y3 y4 y5)) ∧ (∀ y0 y1 y2 y3 y4 y5 y6, LeO (colonnadelaw15_SchemaRules.l1 k y0 y1 y2 y3 y4 y5 y6) (colonnadelaw15_SchemaRules.l1 (k + 1) y0 y1 y2 y3 y4 y5 y6))
  | 0 => ⟨fun _ _ r h => by simp [colonnadelaw15_SchemaRules.j0] at h, fun _ _ _ r h => by simp [colonnadelaw15_SchemaRules.l0] at h, fun _ _ _ _ _ _ _ r h => by simp [colonnadelaw15_SchemaRules.j2] at h, fun _ _ _ _ _ _ r h => by simp [colonnadelaw15_SchemaRules.j3] at h, fun _ _ _ _ _ _ _ r h => by simp [colonnadelaw15_SchemaRules.l1] at h⟩
  | k + 1 => by
    obtain ⟨ih0, ih1, ih2, ih3, ih4⟩ := colonnadelaw15_SchemaRules.mono_l k
    refine ⟨?_, ?_, ?_, ?_, ?_⟩
    · intro y0 y1
      unfold colonnadelaw15_SchemaRules.j0
      repeat' first
      | (with_reducible exact ih0 _ _)
      | (with_reducible exact ih1 _ _ _)
      | (with_reducible exact ih2 _ _ _ _ _ _ _)
      | (with_reducible exact ih3 _ _ _ _ _ _)
      | (with_reducible exact ih4 _ _ _ _ _ _ _)
      | (with_reducible exact colonnadelaw15_letters.mono _ _)
      | (with_reducible exact schema_Check.mono _ _)
      | (with_reducible exact LeO.refl _)
      | (with_reducible exact LeO.none _)
      | (with_reducible refine LeO.ite ?_ ?_)
      | (with_reducible refine LeO.bind ?_ (fun _ => ?_))
      | exact ih0 _ _
      | exact ih1 _ _ _
      | exact ih2 _ _ _ _ _ _ _
      | exact ih3 _ _ _ _ _ _
      | exact ih4 _ _ _ _ _ _ _
      | exact colonnadelaw15_letters.mono _ _
      | exact schema_Check.mono _ _
      | exact LeO.none _
      | refine LeO.ite ?_ ?_
      | refine LeO.bind ?_ (fun _ => ?_)
    · intro y0 y1 y2
      unfold colonnadelaw15_SchemaRules.l0
      repeat' first
      | (with_reducible exact ih0 _ _)
      | (with_reducible exact ih1 _ _ _)
      | (with_reducible exact ih2 _ _ _ _ _ _ _)
      | (with_reducible exact ih3 _ _ _ _ _ _)
      | (with_reducible exact ih4 _ _ _ _ _ _ _)
      | (with_reducible exact colonnadelaw15_letters.mono _ _)
      | (with_reducible exact schema_Check.mono _ _)
      | (with_reducible exact LeO.refl _)
      | (with_reducible exact LeO.none _)
      | (with_reducible refine LeO.ite ?_ ?_)
      | (with_reducible refine LeO.bind ?_ (fun _ => ?_))
      | exact ih0 _ _
      | exact ih1 _ _ _
      | exact ih2 _ _ _ _ _ _ _
      | exact ih3 _ _ _ _ _ _
      | exact ih4 _ _ _ _ _ _ _
      | exact colonnadelaw15_letters.mono _ _
      | exact schema_Check.mono _ _
      | exact LeO.none _
      | refine LeO.ite ?_ ?_
      | refine LeO.bind ?_ (fun _ => ?_)
    · intro y0 y1 y2 y3 y4 y5 y6
      unfold colonnadelaw15_SchemaRules.j2
      repeat' first
      | (with_reducible exact ih0 _ _)
      | (with_reducible exact ih1 _ _ _)
      | (with_reducible exact ih2 _ _ _ _ _ _ _)
      | (with_reducible exact ih3 _ _ _ _ _ _)
      | (with_reducible exact ih4 _ _ _ _ _ _ _)
      | (with_reducible exact colonnadelaw15_letters.mono _ _)
      | (with_reducible exact schema_Check.mono _ _)
      | (with_reducible exact LeO.refl _)
      | (with_reducible exact LeO.none _)
      | (with_reducible refine LeO.ite ?_ ?_)
      | (with_reducible refine LeO.bind ?_ (fun _ => ?_))
      | exact ih0 _ _
      | exact ih1 _ _ _
      | exact ih2 _ _ _ _ _ _ _
      | exact ih3 _ _ _ _ _ _
      | exact ih4 _ _ _ _ _ _ _
      | exact colonnadelaw15_letters.mono _ _
      | exact schema_Check.mono _ _
      | exact LeO.none _
      | refine LeO.ite ?_ ?_
      | refine LeO.bind ?_ (fun _ => ?_)
    · intro y0 y1 y2 y3 y4 y5
      unfold colonnadelaw15_SchemaRules.j3
      repeat' first
      | (with_reducible exact ih0 _ _)
      | (with_reducible exact ih1 _ _ _)
      | (with_reducible exact ih2 _ _ _ _ _ _ _)
      | (with_reducible exact ih3 _ _ _ _ _ _)
      | (with_reducible exact ih4 _ _ _ _ _ _ _)
      | (with_reducible exact colonnadelaw15_letters.mono _ _)
      | (with_reducible exact schema_Check.mono _ _)
      | (with_reducible exact LeO.refl _)
      | (with_reducible exact LeO.none _)
      | (with_reducible refine LeO.ite ?_ ?_)
      | (with_reducible refine LeO.bind ?_ (fun _ => ?_))
      | exact ih0 _ _
      | exact ih1 _ _ _
      | exact ih2 _ _ _ _ _ _ _
      | exact ih3 _ _ _ _ _ _
      | exact ih4 _ _ _ _ _ _ _
      | exact colonnadelaw15_letters.mono _ _
      | exact schema_Check.mono _ _
      | exact LeO.none _
      | refine LeO.ite ?_ ?_
      | refine LeO.bind ?_ (fun _ => ?_)
    · intro y0 y1 y2 y3 y4 y5 y6
      unfold colonnadelaw15_SchemaRules.l1
      repeat' first
      | (with_reducible exact ih0 _ _)
      | (with_reducible exact ih1 _ _ _)
      | (with_reducible exact ih2 _ _ _ _ _ _ _)
      | (with_reducible exact ih3 _ _ _ _ _ _)
      | (with_reducible exact ih4 _ _ _ _ _ _ _)
      | (with_reducible exact colonnadelaw15_letters.mono _ _)
      | (with_reducible exact schema_Check.mono _ _)
      | (with_reducible exact LeO.refl _)
      | (with_reducible exact LeO.none _)
      | (with_reducible refine LeO.ite ?_ ?_)
      | (with_reducible refine LeO.bind ?_ (fun _ => ?_))
      | exact ih0 _ _
      | exact ih1 _ _ _
      | exact ih2 _ _ _ _ _ _ _
      | exact ih3 _ _ _ _ _ _
      | exact ih4 _ _ _ _ _ _ _
      | exact colonnadelaw15_letters.mono _ _
      | exact schema_Check.mono _ _
      | exact LeO.none _
      | refine LeO.ite ?_ ?_
      | refine LeO.bind ?_ (fun _ => ?_)
theorem colonnadelaw15_SchemaRules.mono : ∀ a0 k, LeO (colonnadelaw15_SchemaRules.f k a0) (colonnadelaw15_SchemaRules.f (k + 1) a0) := by
  intro a0 k
  obtain ⟨ih0, ih1, ih2, ih3, ih4⟩ := colonnadelaw15_SchemaRules.mono_l k
  unfold colonnadelaw15_SchemaRules.f
  repeat' first
      | (with_reducible exact ih0 _ _)
      | (with_reducible exact ih1 _ _ _)
      | (with_reducible exact ih2 _ _ _ _ _ _ _)
      | (with_reducible exact ih3 _ _ _ _ _ _)
      | (with_reducible exact ih4 _ _ _ _ _ _ _)
      | (with_reducible exact colonnadelaw15_letters.mono _ _)
      | (with_reducible exact schema_Check.mono _ _)
      | (with_reducible exact LeO.refl _)
      | (with_reducible exact LeO.none _)
      | (with_reducible refine LeO.ite ?_ ?_)
      | (with_reducible refine LeO.bind ?_ (fun _ => ?_))
      | exact ih0 _ _
      | exact ih1 _ _ _
      | exact ih2 _ _ _ _ _ _ _
      | exact ih3 _ _ _ _ _ _
      | exact ih4 _ _ _ _ _ _ _
      | exact colonnadelaw15_letters.mono _ _
      | exact schema_Check.mono _ _
      | exact LeO.none _
      | refine LeO.ite ?_ ?_
      | refine LeO.bind ?_ (fun _ => ?_)
set_option maxHeartbeats 8000000 in
set_option maxRecDepth 100000 in
theorem colonnadelaw15_SchemaRules.calls (k : Nat) (A0 : Option Addr) (c0 : Nat) (l0 : List (S42)) (r : Bool) (w : World) (hr0 : Kd.C k42 w A0 l0.length l0) (hc0 : l0.length ≤ c0) (h : colonnadelaw15_SchemaRules.f k l0 = some r) (htrue : Aside0 (r = true)) :
    Calls Try.prog 8 #[.slice A0 l0.length c0] w fun e w' => e = .returned (.bool r) ∧ Below w.heap.size w w' := by
  have hu42 := Try.underlying42
  have HR0 := Aside0.mk hr0
  have HC0 := Aside0.mk hc0
  clear hr0 hc0
  have HB := Aside0.mk (Below.refl w.heap.size w)
  have H : ((colonnadelaw15_known.f).bind fun t272 => (if t272 = true then (if (l0.length : Int) ≥ 1 then (colonnadelaw15_SchemaRules.j0 k l0 (decide ((l0.length : Int) ≤ 256))) else (colonnadelaw15_SchemaRules.j0 k l0 false)) else (some false))) = some r := h
  clear h
  replace H := Option.bind_eq_some_iff.mp H
  obtain ⟨t272, A20, H⟩ := H
  replace H : (if t272 = true then (if (l0.length : Int) ≥ 1 then (colonnadelaw15_SchemaRules.j0 k l0 (decide ((l0.length : Int) ≤ 256))) else (colonnadelaw15_SchemaRules.j0 k l0 false)) else (some false)) = some r := H
  have A2 := Aside0.mk A20
  clear A20
  by_cases c3 : t272 = true
  · subst c3
    have H1 : (if (l0.length : Int) ≥ 1 then (colonnadelaw15_SchemaRules.j0 k l0 (decide ((l0.length : Int) ≤ 256))) else (colonnadelaw15_SchemaRules.j0 k l0 false)) = some r := by rw [if_pos rfl] at H; exact H
    clear H
    have H := H1
    clear H1
    have HC4 := Aside0.mk H
    clear H
    go_enter Try.func8, Try.ntmps8
    go_upto_region 3 with (first | (go_at_call 18; (with_reducible refine (colonnadelaw15_known.calls  true _ A2.out).mono ?_); rintro e w5 ⟨rfl, hb⟩; (try clear A2); have n0_ := Aside0.mk (below_step (by repeat (first | (with_reducible first | exact HB.out | apply below_alloc | apply pw_below_drewN | apply below_drew1) | exact HB.out)) hb); clear HB; have HB := n0_; clear n0_; (try clear hb); (try clear hb2); (try clear hk); (try clear hi)))
    repeat (go_quiet (first | (go_at_call 18; (with_reducible refine (colonnadelaw15_known.calls  true _ A2.out).mono ?_); rintro e w5 ⟨rfl, hb⟩; (try clear A2); have n0_ := Aside0.mk (below_step (by repeat (first | (with_reducible first | exact HB.out | apply below_alloc | apply pw_below_drewN | apply below_drew1) | exact HB.out)) hb); clear HB; have HB := n0_; clear n0_; (try clear hb); (try clear hb2); (try clear hk); (try clear hi))); go_upto_region 3 with (first | (go_at_call 18; (with_reducible refine (colonnadelaw15_known.calls  true _ A2.out).mono ?_); rintro e w5 ⟨rfl, hb⟩; (try clear A2); have n0_ := Aside0.mk (below_step (by repeat (first | (with_reducible first | exact HB.out | apply below_alloc | apply pw_below_drewN | apply below_drew1) | exact HB.out)) hb); clear HB; have HB := n0_; clear n0_; (try clear hb); (try clear hb2); (try clear hk); (try clear hi))))
    (try simp only [Act.put, List.setIfInBounds_toArray, List.set_cons_zero, List.set_cons_succ])
    go_cut [3] (fun v3 wc => ∃ (kq : Nat) (x3_3 : Bool), v3 = .bool x3_3 ∧ Aside0 (colonnadelaw15_SchemaRules.j0 kq l0 x3_3 = some r) ∧ Aside0 (kq ≤ k) ∧ Aside0 (Below w.heap.size w wc))
    case first =>
      have H := HC4.out
      clear HC4
      by_cases c6 : (l0.length : Int) ≥ 1
      · rw [if_pos c6] at H
        have c6b0 : decide (1 ≤ (l0.length : Int)) = true := decide_eq_true c6
        have c6b1 : decide (1 ≤ l0.length) = true := decide_eq_true (by omega)
        clear c6
        (first | rw [c6b0] | (simp only [i64_w, i32_w]; rw [c6b0]) | skip)
        have H' := Aside0.mk H
        clear H
        go_wp2
        repeat (go_quiet (fail); try go_wp2)
        go_meet
        case rel => exact ⟨_, (decide ((l0.length : Int) ≤ 256)), (by first | rfl | (simp; done) | (simp [*]; done)), H', ⟨by first | omega | exact Nat.le_refl _⟩, ⟨by repeat (first | (with_reducible first | exact HB.out | apply below_alloc | apply pw_below_drewN | apply below_drew1) | exact HB.out)⟩⟩
      · rw [if_neg c6] at H
        have c6b0 : decide (1 ≤ (l0.length : Int)) = false := decide_eq_false c6
        have c6b1 : decide (1 ≤ l0.length) = false := decide_eq_false (by omega)
        clear c6
        (first | rw [c6b0] | (simp only [i64_w, i32_w]; rw [c6b0]) | skip)
        have H' := Aside0.mk H
        clear H
        go_wp2
        repeat (go_quiet (fail); try go_wp2)
        go_meet
        case rel => exact ⟨_, (false), (by first | rfl | (simp; done) | (simp [*]; done)), H', ⟨by first | omega | exact Nat.le_refl _⟩, ⟨by repeat (first | (with_reducible first | exact HB.out | apply below_alloc | apply pw_below_drewN | apply below_drew1) | exact HB.out)⟩⟩
    case rest =>
      clear HC4
      try clear p2
      try clear c3
      try clear c6
      try clear c6b0
      try clear c6b1
      obtain ⟨kq, x3_3, rfl, HA, HJ3, HB⟩ := hcut
      cases kq with
      | zero => exact absurd HA.out (by simp [colonnadelaw15_SchemaRules.j0])
      | succ kj3 =>
        have H := HA.out
        clear HA
        simp only [colonnadelaw15_SchemaRules.j0] at H
        have H' := Aside0.mk H
        clear H
        go_wp2
        repeat (go_quiet (fail); try go_wp2)
        go_loopg [3, 4] kj3 (fun kq v3 v4 w' => ∃ (x3_2 : Bool) (x4_2 : Int), v3 = .bool x3_2 ∧ v4 = .int .i64 x4_2 ∧ Aside0 (colonnadelaw15_SchemaRules.l0 kq l0 x3_2 x4_2 = some r) ∧ Aside0 (kq ≤ kj3) ∧ Aside0 (Below w.heap.size w w'))
        case atStart => exact ⟨(x3_3), (0), (by first | rfl | (simp; done) | (simp [*]; done)), (by first | rfl | (simp; done) | (simp [*]; done)), H', ⟨Nat.le_refl _⟩, ⟨by repeat (first | (with_reducible first | exact HB.out | apply below_alloc | apply pw_below_drewN | apply below_drew1) | exact HB.out)⟩⟩
        case round =>
          clear H'
          try clear p2
          try clear c3
          try clear c6
          try clear c6b0
          try clear c6b1
          try clear p2
          obtain ⟨x3_2, x4_2, rfl, rfl, HA, HK2, HB⟩ := hrel
          cases gk with
          | zero => exact absurd HA.out (by simp [colonnadelaw15_SchemaRules.l0])
          | succ k2 =>
            have H := HA.out
            clear HA
            simp only [colonnadelaw15_SchemaRules.l0] at H
            by_cases c7 : x4_2 < (l0.length : Int)
            · rw [if_pos c7] at H
              have c7b0 : decide (x4_2 < (l0.length : Int)) = true := decide_eq_true c7
              clear c7
              by_cases c8 : 0 ≤ x4_2
              · rw [if_pos c8] at H
                have c8b0 : decide (0 ≤ x4_2) = true := decide_eq_true c8
                clear c8
                have HC9 := Aside0.mk H
                clear H
                have p274 : 0 ≤ (x4_2 : Int) := of_decide_eq_true (by first | (with_reducible assumption) | assumption)
                have q274 : x4_2 < (l0.length : Int) := of_decide_eq_true (by first | (with_reducible assumption) | assumption)
                obtain ⟨ad274, e274, hx274_0, hx274_1, hx274_2⟩ := at_T42 HR0.out x4_2 p274 q274
                cases e274
                replace hx274_0 := (HB.out.cell (World.block_lt_of_cell? w _ hx274_0)).trans hx274_0
                replace hx274_1 := (HB.out.cell (World.block_lt_of_cell? w _ hx274_1)).trans hx274_1
                replace hx274_2 := (HB.out.cell (World.block_lt_of_cell? w _ hx274_2)).trans hx274_2
                replace p274 := eq_true p274
                replace q274 := eq_true q274
                go_upto_region 8 with (first | ((with_reducible refine gate_dst (N := 5) rfl ?_); (try (refine gate_guard (by rfl) ?_; dsimp only)); refine box_event ?hg (N := 5) ?hd (cs := #[.string (⟨#[]⟩ : ByteArray), .int .i64 0, .bool false]) (t := 42) ?hr ?_; (case hd => rfl); (case hg => rfl); (case hr => first | (go_simp; done) | (go_simp; rfl)); intro gb275 hg w10 hbox hb; have n0_ := Aside0.mk (below_step (by repeat (first | (with_reducible first | exact HB.out | apply below_alloc | apply pw_below_drewN | apply below_drew1) | exact HB.out)) hb); have n1_ := Aside0.mk (hbox); have n2_ := Aside0.mk ((by rw [hg]; exact (below_size (by repeat (first | (with_reducible first | exact HB.out | apply below_alloc | apply pw_below_drewN | apply below_drew1) | exact HB.out))) : w.heap.size ≤ gb275)); have n3_ := Aside0.mk ((by rw [hg]; exact (below_size (by repeat (first | (with_reducible first | exact HB.out | apply below_alloc | apply pw_below_drewN | apply below_drew1) | exact HB.out))) : w.heap.size ≤ gb275)); clear HB; have HB := n0_; have BK275 := n1_; have GW275 := n2_; have GE275 := n3_; clear n0_ n1_ n2_ n3_; clear hb hbox hg; obtain ⟨hcz11_0, hcz11_1, hcz11_2⟩ := cells_3 BK275.out; obtain ⟨hfz11_0, hfz11_1, hfz11_2⟩ := froz_3 BK275.out))
                repeat (go_quiet (first | ((with_reducible refine gate_dst (N := 5) rfl ?_); (try (refine gate_guard (by rfl) ?_; dsimp only)); refine box_event ?hg (N := 5) ?hd (cs := #[.string (⟨#[]⟩ : ByteArray), .int .i64 0, .bool false]) (t := 42) ?hr ?_; (case hd => rfl); (case hg => rfl); (case hr => first | (go_simp; done) | (go_simp; rfl)); intro gb275 hg w10 hbox hb; have n0_ := Aside0.mk (below_step (by repeat (first | (with_reducible first | exact HB.out | apply below_alloc | apply pw_below_drewN | apply below_drew1) | exact HB.out)) hb); have n1_ := Aside0.mk (hbox); have n2_ := Aside0.mk ((by rw [hg]; exact (below_size (by repeat (first | (with_reducible first | exact HB.out | apply below_alloc | apply pw_below_drewN | apply below_drew1) | exact HB.out))) : w.heap.size ≤ gb275)); have n3_ := Aside0.mk ((by rw [hg]; exact (below_size (by repeat (first | (with_reducible first | exact HB.out | apply below_alloc | apply pw_below_drewN | apply below_drew1) | exact HB.out))) : w.heap.size ≤ gb275)); clear HB; have HB := n0_; have BK275 := n1_; have GW275 := n2_; have GE275 := n3_; clear n0_ n1_ n2_ n3_; clear hb hbox hg; obtain ⟨hcz11_0, hcz11_1, hcz11_2⟩ := cells_3 BK275.out; obtain ⟨hfz11_0, hfz11_1, hfz11_2⟩ := froz_3 BK275.out)); go_upto_region 8 with (first | ((with_reducible refine gate_dst (N := 5) rfl ?_); (try (refine gate_guard (by rfl) ?_; dsimp only)); refine box_event ?hg (N := 5) ?hd (cs := #[.string (⟨#[]⟩ : ByteArray), .int .i64 0, .bool false]) (t := 42) ?hr ?_; (case hd => rfl); (case hg => rfl); (case hr => first | (go_simp; done) | (go_simp; rfl)); intro gb275 hg w10 hbox hb; have n0_ := Aside0.mk (below_step (by repeat (first | (with_reducible first | exact HB.out | apply below_alloc | apply pw_below_drewN | apply below_drew1) | exact HB.out)) hb); have n1_ := Aside0.mk (hbox); have n2_ := Aside0.mk ((by rw [hg]; exact (below_size (by repeat (first | (with_reducible first | exact HB.out | apply below_alloc | apply pw_below_drewN | apply below_drew1) | exact HB.out))) : w.heap.size ≤ gb275)); have n3_ := Aside0.mk ((by rw [hg]; exact (below_size (by repeat (first | (with_reducible first | exact HB.out | apply below_alloc | apply pw_below_drewN | apply below_drew1) | exact HB.out))) : w.heap.size ≤ gb275)); clear HB; have HB := n0_; have BK275 := n1_; have GW275 := n2_; have GE275 := n3_; clear n0_ n1_ n2_ n3_; clear hb hbox hg; obtain ⟨hcz11_0, hcz11_1, hcz11_2⟩ := cells_3 BK275.out; obtain ⟨hfz11_0, hfz11_1, hfz11_2⟩ := froz_3 BK275.out)))
                (try simp only [Act.put, List.setIfInBounds_toArray, List.set_cons_zero, List.set_cons_succ])
                go_cut [6] (fun v6 wc => ∃ (kq : Nat) (x6_8 : Bool), v6 = .bool x6_8 ∧ Aside0 (colonnadelaw15_SchemaRules.j2 kq l0 x3_2 x4_2 x6_8 ((rd_T42 l0 x4_2).f0) ((rd_T42 l0 x4_2).f1) ((rd_T42 l0 x4_2).f2) = some r) ∧ Aside0 (kq ≤ k2) ∧ Aside0 (wc.heap[gb275]? = some (.cells #[.string ((rd_T42 l0 x4_2).f0), .int .i64 ((rd_T42 l0 x4_2).f1), .bool ((rd_T42 l0 x4_2).f2)] 42 (0, 0))) ∧ Aside0 (Below w.heap.size w wc))
                case first =>
                  have H := HC9.out
                  clear HC9
                  replace H := Option.bind_eq_some_iff.mp H
                  obtain ⟨t276, A120, H⟩ := H
                  replace H : (if t276 = true then (if ((rd_T42 l0 x4_2).f1) = 1 then (colonnadelaw15_SchemaRules.j2 k2 l0 x3_2 x4_2 true ((rd_T42 l0 x4_2).f0) ((rd_T42 l0 x4_2).f1) ((rd_T42 l0 x4_2).f2)) else (colonnadelaw15_SchemaRules.j2 k2 l0 x3_2 x4_2 (((rd_T42 l0 x4_2).f1) == 2) ((rd_T42 l0 x4_2).f0) ((rd_T42 l0 x4_2).f1) ((rd_T42 l0 x4_2).f2))) else (colonnadelaw15_SchemaRules.j2 k2 l0 x3_2 x4_2 false ((rd_T42 l0 x4_2).f0) ((rd_T42 l0 x4_2).f1) ((rd_T42 l0 x4_2).f2))) = some r := H
                  have A12 := Aside0.mk A120
                  clear A120
                  by_cases c13 : t276 = true
                  · subst c13
                    have H1 : (if ((rd_T42 l0 x4_2).f1) = 1 then (colonnadelaw15_SchemaRules.j2 k2 l0 x3_2 x4_2 true ((rd_T42 l0 x4_2).f0) ((rd_T42 l0 x4_2).f1) ((rd_T42 l0 x4_2).f2)) else (colonnadelaw15_SchemaRules.j2 k2 l0 x3_2 x4_2 (((rd_T42 l0 x4_2).f1) == 2) ((rd_T42 l0 x4_2).f0) ((rd_T42 l0 x4_2).f1) ((rd_T42 l0 x4_2).f2))) = some r := by rw [if_pos rfl] at H; exact H
                    clear H
                    have H := H1
                    clear H1
                    by_cases c14 : ((rd_T42 l0 x4_2).f1) = 1
                    · rw [if_pos c14] at H
                      have c14b0 : (((rd_T42 l0 x4_2).f1) == 1) = true := beq_iff_eq.mpr c14
                      have c14b1 : (((rd_T42 l0 x4_2).f1) != 1) = false := bne_eq_false_iff_eq.mpr c14
                      clear c14
                      (first | rw [c14b0] | (simp only [i64_w, i32_w]; rw [c14b0]) | skip)
                      have H' := Aside0.mk H
                      clear H
                      have hcz15_0 : w10.cell? ⟨gb275, 0, none⟩ = some (.string (⟨#[]⟩ : ByteArray)) := (blk_cell BK275.out 0).trans rfl
                      have hcz15_1 : w10.cell? ⟨gb275, 1, none⟩ = some (.int .i64 0) := (blk_cell BK275.out 1).trans rfl
                      have hcz15_2 : w10.cell? ⟨gb275, 2, none⟩ = some (.bool false) := (blk_cell BK275.out 2).trans rfl
                      have hfz15_0 := blk_frozen BK275.out 0
                      have hfz15_1 := blk_frozen BK275.out 1
                      have hfz15_2 := blk_frozen BK275.out 2
                      go_wp2_with (first | (go_at_call 27; (with_reducible refine (colonnadelaw15_letters.calls k2 ((rd_T42 l0 x4_2).f0) true _ A12.out).mono ?_); rintro e w' ⟨rfl, ⟨nd, rfl⟩⟩; (try first | exact ⟨rfl, _, World.drewN_drewN _ _ _⟩ | exact ⟨rfl, _, Eq.trans (World.drewN_drewN _ _ _) (congrArg (World.drewN _) (Nat.add_assoc _ _ _))⟩)))
                      repeat (go_quiet (first | (go_at_call 27; (with_reducible refine (colonnadelaw15_letters.calls k2 ((rd_T42 l0 x4_2).f0) true _ A12.out).mono ?_); rintro e w' ⟨rfl, ⟨nd, rfl⟩⟩; (try first | exact ⟨rfl, _, World.drewN_drewN _ _ _⟩ | exact ⟨rfl, _, Eq.trans (World.drewN_drewN _ _ _) (congrArg (World.drewN _) (Nat.add_assoc _ _ _))⟩))); try go_wp2_with (first | (go_at_call 27; (with_reducible refine (colonnadelaw15_letters.calls k2 ((rd_T42 l0 x4_2).f0) true _ A12.out).mono ?_); rintro e w' ⟨rfl, ⟨nd, rfl⟩⟩; (try first | exact ⟨rfl, _, World.drewN_drewN _ _ _⟩ | exact ⟨rfl, _, Eq.trans (World.drewN_drewN _ _ _) (congrArg (World.drewN _) (Nat.add_assoc _ _ _))⟩))))
                      go_meet
                      case rel => exact ⟨_, (true), (by first | rfl | (simp; done) | (simp [*]; done)), H', ⟨by have := HJ3.out; have := HK2.out; first | omega | exact Nat.le_refl _⟩, ⟨by (with_reducible repeat (first | refine blk_drewN ?_ _ | refine blk_drew ?_ | refine blk_alloc ?_ _)); refine blk_put (cs := #[.string ((rd_T42 l0 x4_2).f0), .int .i64 ((rd_T42 l0 x4_2).f1), .bool false]) ?_ 2 _ rfl; (with_reducible repeat (first | refine blk_drewN ?_ _ | refine blk_drew ?_ | refine blk_alloc ?_ _)); refine blk_put (cs := #[.string ((rd_T42 l0 x4_2).f0), .int .i64 0, .bool false]) ?_ 1 _ rfl; (with_reducible repeat (first | refine blk_drewN ?_ _ | refine blk_drew ?_ | refine blk_alloc ?_ _)); refine blk_put (cs := #[.string (⟨#[]⟩ : ByteArray), .int .i64 0, .bool false]) ?_ 0 _ rfl; (with_reducible repeat (first | refine blk_drewN ?_ _ | refine blk_drew ?_ | refine blk_alloc ?_ _)); exact BK275.out⟩, ⟨by repeat (first | (with_reducible first | exact HB.out | apply below_alloc | apply pw_below_drewN | apply below_drew1 | refine below_set ?_ GE275.out) | exact HB.out)⟩⟩
                    · rw [if_neg c14] at H
                      have c14b0 : (((rd_T42 l0 x4_2).f1) == 1) = false := beq_eq_false_iff_ne.mpr c14
                      have c14b1 : (((rd_T42 l0 x4_2).f1) != 1) = true := bne_iff_ne.mpr c14
                      (first | rw [c14b0] | (simp only [i64_w, i32_w]; rw [c14b0]) | skip)
                      have H' := Aside0.mk H
                      clear H
                      have hcz16_0 : w10.cell? ⟨gb275, 0, none⟩ = some (.string (⟨#[]⟩ : ByteArray)) := (blk_cell BK275.out 0).trans rfl
                      have hcz16_1 : w10.cell? ⟨gb275, 1, none⟩ = some (.int .i64 0) := (blk_cell BK275.out 1).trans rfl
                      have hcz16_2 : w10.cell? ⟨gb275, 2, none⟩ = some (.bool false) := (blk_cell BK275.out 2).trans rfl
                      have hfz16_0 := blk_frozen BK275.out 0
                      have hfz16_1 := blk_frozen BK275.out 1
                      have hfz16_2 := blk_frozen BK275.out 2
                      go_wp2_with (first | (go_at_call 27; (with_reducible refine (colonnadelaw15_letters.calls k2 ((rd_T42 l0 x4_2).f0) true _ A12.out).mono ?_); rintro e w' ⟨rfl, ⟨nd, rfl⟩⟩; (try first | exact ⟨rfl, _, World.drewN_drewN _ _ _⟩ | exact ⟨rfl, _, Eq.trans (World.drewN_drewN _ _ _) (congrArg (World.drewN _) (Nat.add_assoc _ _ _))⟩)))
                      repeat (go_quiet (first | (go_at_call 27; (with_reducible refine (colonnadelaw15_letters.calls k2 ((rd_T42 l0 x4_2).f0) true _ A12.out).mono ?_); rintro e w' ⟨rfl, ⟨nd, rfl⟩⟩; (try first | exact ⟨rfl, _, World.drewN_drewN _ _ _⟩ | exact ⟨rfl, _, Eq.trans (World.drewN_drewN _ _ _) (congrArg (World.drewN _) (Nat.add_assoc _ _ _))⟩))); try go_wp2_with (first | (go_at_call 27; (with_reducible refine (colonnadelaw15_letters.calls k2 ((rd_T42 l0 x4_2).f0) true _ A12.out).mono ?_); rintro e w' ⟨rfl, ⟨nd, rfl⟩⟩; (try first | exact ⟨rfl, _, World.drewN_drewN _ _ _⟩ | exact ⟨rfl, _, Eq.trans (World.drewN_drewN _ _ _) (congrArg (World.drewN _) (Nat.add_assoc _ _ _))⟩))))
                      go_meet
                      case rel => exact ⟨_, ((((rd_T42 l0 x4_2).f1) == 2)), (by first | rfl | (simp; done) | (simp [*]; done)), H', ⟨by have := HJ3.out; have := HK2.out; first | omega | exact Nat.le_refl _⟩, ⟨by (with_reducible repeat (first | refine blk_drewN ?_ _ | refine blk_drew ?_ | refine blk_alloc ?_ _)); refine blk_put (cs := #[.string ((rd_T42 l0 x4_2).f0), .int .i64 ((rd_T42 l0 x4_2).f1), .bool false]) ?_ 2 _ rfl; (with_reducible repeat (first | refine blk_drewN ?_ _ | refine blk_drew ?_ | refine blk_alloc ?_ _)); refine blk_put (cs := #[.string ((rd_T42 l0 x4_2).f0), .int .i64 0, .bool false]) ?_ 1 _ rfl; (with_reducible repeat (first | refine blk_drewN ?_ _ | refine blk_drew ?_ | refine blk_alloc ?_ _)); refine blk_put (cs := #[.string (⟨#[]⟩ : ByteArray), .int .i64 0, .bool false]) ?_ 0 _ rfl; (with_reducible repeat (first | refine blk_drewN ?_ _ | refine blk_drew ?_ | refine blk_alloc ?_ _)); exact BK275.out⟩, ⟨by repeat (first | (with_reducible first | exact HB.out | apply below_alloc | apply pw_below_drewN | apply below_drew1 | refine below_set ?_ GE275.out) | exact HB.out)⟩⟩
                  · replace c13 := Bool.eq_false_iff.mpr c13
                    subst c13
                    have H1 : (colonnadelaw15_SchemaRules.j2 k2 l0 x3_2 x4_2 false ((rd_T42 l0 x4_2).f0) ((rd_T42 l0 x4_2).f1) ((rd_T42 l0 x4_2).f2)) = some r := by rw [if_neg (show ¬ (false = true) by decide)] at H; exact H
                    clear H
                    have H := H1
                    clear H1
                    have H' := Aside0.mk H
                    clear H
                    have hcz17_0 : w10.cell? ⟨gb275, 0, none⟩ = some (.string (⟨#[]⟩ : ByteArray)) := (blk_cell BK275.out 0).trans rfl
                    have hcz17_1 : w10.cell? ⟨gb275, 1, none⟩ = some (.int .i64 0) := (blk_cell BK275.out 1).trans rfl
                    have hcz17_2 : w10.cell? ⟨gb275, 2, none⟩ = some (.bool false) := (blk_cell BK275.out 2).trans rfl
                    have hfz17_0 := blk_frozen BK275.out 0
                    have hfz17_1 := blk_frozen BK275.out 1
                    have hfz17_2 := blk_frozen BK275.out 2
                    go_wp2_with (first | (go_at_call 27; (with_reducible refine (colonnadelaw15_letters.calls k2 ((rd_T42 l0 x4_2).f0) false _ A12.out).mono ?_); rintro e w' ⟨rfl, ⟨nd, rfl⟩⟩; (try first | exact ⟨rfl, _, World.drewN_drewN _ _ _⟩ | exact ⟨rfl, _, Eq.trans (World.drewN_drewN _ _ _) (congrArg (World.drewN _) (Nat.add_assoc _ _ _))⟩)))
                    repeat (go_quiet (first | (go_at_call 27; (with_reducible refine (colonnadelaw15_letters.calls k2 ((rd_T42 l0 x4_2).f0) false _ A12.out).mono ?_); rintro e w' ⟨rfl, ⟨nd, rfl⟩⟩; (try first | exact ⟨rfl, _, World.drewN_drewN _ _ _⟩ | exact ⟨rfl, _, Eq.trans (World.drewN_drewN _ _ _) (congrArg (World.drewN _) (Nat.add_assoc _ _ _))⟩))); try go_wp2_with (first | (go_at_call 27; (with_reducible refine (colonnadelaw15_letters.calls k2 ((rd_T42 l0 x4_2).f0) false _ A12.out).mono ?_); rintro e w' ⟨rfl, ⟨nd, rfl⟩⟩; (try first | exact ⟨rfl, _, World.drewN_drewN _ _ _⟩ | exact ⟨rfl, _, Eq.trans (World.drewN_drewN _ _ _) (congrArg (World.drewN _) (Nat.add_assoc _ _ _))⟩))))
                    go_meet
                    case rel => exact ⟨_, (false), (by first | rfl | (simp; done) | (simp [*]; done)), H', ⟨by have := HJ3.out; have := HK2.out; first | omega | exact Nat.le_refl _⟩, ⟨by (with_reducible repeat (first | refine blk_drewN ?_ _ | refine blk_drew ?_ | refine blk_alloc ?_ _)); refine blk_put (cs := #[.string ((rd_T42 l0 x4_2).f0), .int .i64 ((rd_T42 l0 x4_2).f1), .bool false]) ?_ 2 _ rfl; (with_reducible repeat (first | refine blk_drewN ?_ _ | refine blk_drew ?_ | refine blk_alloc ?_ _)); refine blk_put (cs := #[.string ((rd_T42 l0 x4_2).f0), .int .i64 0, .bool false]) ?_ 1 _ rfl; (with_reducible repeat (first | refine blk_drewN ?_ _ | refine blk_drew ?_ | refine blk_alloc ?_ _)); refine blk_put (cs := #[.string (⟨#[]⟩ : ByteArray), .int .i64 0, .bool false]) ?_ 0 _ rfl; (with_reducible repeat (first | refine blk_drewN ?_ _ | refine blk_drew ?_ | refine blk_alloc ?_ _)); exact BK275.out⟩, ⟨by repeat (first | (with_reducible first | exact HB.out | apply below_alloc | apply pw_below_drewN | apply below_drew1 | refine below_set ?_ GE275.out) | exact HB.out)⟩⟩
                case rest =>
                  clear HC9
                  try clear c1
                  try clear p2
                  try clear q2
                  try clear hx2
                  try clear c3
                  try clear c6
                  try clear c6b0
                  try clear c6b1
                  try clear c7
                  try clear c7b0
                  try clear c8
                  try clear c8b0
                  try clear c13
                  try clear c14
                  try clear c14b0
                  try clear c14b1
                  try clear hcz11_0
                  try clear hcz11_1
                  try clear hcz11_2
                  try clear hcz15_0
                  try clear hcz15_1
                  try clear hcz15_2
                  try clear hcz16_0
                  try clear hcz16_1
                  try clear hcz16_2
                  try clear hcz17_0
                  try clear hcz17_1
                  try clear hcz17_2
                  try clear hfz11_0
                  try clear hfz11_1
                  try clear hfz11_2
                  try clear hfz15_0
                  try clear hfz15_1
                  try clear hfz15_2
                  try clear hfz16_0
                  try clear hfz16_1
                  try clear hfz16_2
                  try clear hfz17_0
                  try clear hfz17_1
                  try clear hfz17_2
                  try clear hx274_0
                  try clear hx274_1
                  try clear hx274_2
                  try clear p2
                  try clear p274
                  try clear q274
                  obtain ⟨kq, x6_8, rfl, HA, HJ8, BK275, HB⟩ := hcut
                  cases kq with
                  | zero => exact absurd HA.out (by simp [colonnadelaw15_SchemaRules.j2])
                  | succ kj8 =>
                    have H := HA.out
                    clear HA
                    simp only [colonnadelaw15_SchemaRules.j2] at H
                    obtain ⟨y277, hy277⟩ : ∃ y_ : List (S42), y_ = (([(⟨((rd_T42 l0 x4_2).f0), ((rd_T42 l0 x4_2).f1), ((rd_T42 l0 x4_2).f2)⟩ : S42)] : List (S42))) := ⟨_, rfl⟩
                    replace H : ((schema_Check.f kj8 y277).bind fun t280 => (if ((t280 == 0) != x6_8) = true then (some false) else (if x3_2 = true then (colonnadelaw15_SchemaRules.j3 kj8 l0 x6_8 x4_2 ((rd_T42 l0 x4_2).f0) ((rd_T42 l0 x4_2).f1) ((rd_T42 l0 x4_2).f2)) else (colonnadelaw15_SchemaRules.j3 kj8 l0 false x4_2 ((rd_T42 l0 x4_2).f0) ((rd_T42 l0 x4_2).f1) ((rd_T42 l0 x4_2).f2))))) = some r := by first | (rw [hy277]; with_reducible exact H) | (have H2_ := (Option.bind_some _ _).symm.trans H; rw [hy277]; with_reducible exact H2_) | (have H2_ := (Option.bind_some _ _).symm.trans H; with_reducible exact H2_) | with_reducible exact H | (rw [hy277]; exact H) | exact H
                    have Ny277 := Aside0.mk hy277
                    clear hy277
                    replace H := Option.bind_eq_some_iff.mp H
                    obtain ⟨t280, A180, H⟩ := H
                    replace H : (if ((t280 == 0) != x6_8) = true then (some false) else (if x3_2 = true then (colonnadelaw15_SchemaRules.j3 kj8 l0 x6_8 x4_2 ((rd_T42 l0 x4_2).f0) ((rd_T42 l0 x4_2).f1) ((rd_T42 l0 x4_2).f2)) else (colonnadelaw15_SchemaRules.j3 kj8 l0 false x4_2 ((rd_T42 l0 x4_2).f0) ((rd_T42 l0 x4_2).f1) ((rd_T42 l0 x4_2).f2)))) = some r := H
                    have A18 := Aside0.mk A180
                    clear A180
                    by_cases c19 : ((t280 == 0) != x6_8) = true
                    · rw [if_pos c19] at H
                      exact absurd ((Option.some.inj H).trans htrue.out) (by decide)
                    · rw [if_neg c19] at H
                      have c19b0 : ((t280 == 0) != x6_8) = false := by simpa using c19
                      (try (have c19b1 : decide ((t280 == 0) = x6_8) = true := by simpa using c19))
                      (try (have c19b2 : ((t280 == 0) == x6_8) = true := by simpa using c19))
                      clear c19
                      have HC25 := Aside0.mk H
                      clear H
                      have hcz26_0 : wc.cell? ⟨gb275, 0, none⟩ = some (.string ((rd_T42 l0 x4_2).f0)) := (blk_cell BK275.out 0).trans rfl
                      have hcz26_1 : wc.cell? ⟨gb275, 1, none⟩ = some (.int .i64 ((rd_T42 l0 x4_2).f1)) := (blk_cell BK275.out 1).trans rfl
                      have hcz26_2 : wc.cell? ⟨gb275, 2, none⟩ = some (.bool ((rd_T42 l0 x4_2).f2)) := (blk_cell BK275.out 2).trans rfl
                      have hfz26_0 := blk_frozen BK275.out 0
                      have hfz26_1 := blk_frozen BK275.out 1
                      have hfz26_2 := blk_frozen BK275.out 2
                      go_upto_region 11 with (first | ((with_reducible refine gate_dst (N := 43) rfl ?_); (try (refine gate_guard (by rfl) ?_; dsimp only)); refine Kd.R_lit k42 _ 42 ?hg (N := 43) ?hd (xs := ([(⟨((rd_T42 l0 x4_2).f0), ((rd_T42 l0 x4_2).f1), ((rd_T42 l0 x4_2).f2)⟩ : S42)] : List (S42))) (inner := [.string ((rd_T42 l0 x4_2).f0), .int .i64 ((rd_T42 l0 x4_2).f1), .bool ((rd_T42 l0 x4_2).f2)]) (ok := fun _ => True) (okp := fun _ => True) ?hr ?hp (fun _ hk => hk) trivial (Below.refl _ _) (Nat.le_refl _) (by simp) ?_; (case hd => rfl); (case hg => rfl); (case hr => first | (go_simp; done) | (go_simp; rfl)); (case hp => exact (Reps.c3 (show Kd.M k42 _ _ _ (⟨((rd_T42 l0 x4_2).f0), ((rd_T42 l0 x4_2).f1), ((rd_T42 l0 x4_2).f2)⟩ : S42) [.string ((rd_T42 l0 x4_2).f0), .int .i64 ((rd_T42 l0 x4_2).f1), .bool ((rd_T42 l0 x4_2).f2)] from (k42_mkM _ _ _ (⟨((rd_T42 l0 x4_2).f0), ((rd_T42 l0 x4_2).f1), ((rd_T42 l0 x4_2).f2)⟩ : S42) )) (Reps.none _ _))); intro v278 w27 ho28 hb hg_ hnew_; clear hg_ hnew_; (first | rw [← Ny277.out] at ho28 | (simp only [Int.reduceToNat] at ho28; rw [← Ny277.out] at ho28)); have n0_ := Aside0.mk (Kd.R_lower (Kd.R_newB ho28 (g := gb275) (o := .cells #[.string ((rd_T42 l0 x4_2).f0), .int .i64 ((rd_T42 l0 x4_2).f1), .bool ((rd_T42 l0 x4_2).f2)] 42 (0, 0)) (by (with_reducible repeat (first | refine blk_drewN ?_ _ | refine blk_drew ?_ | refine blk_alloc ?_ _)); exact BK275.out)) (below_size (by repeat (first | (with_reducible first | exact HB.out | apply below_alloc | apply pw_below_drewN | apply below_drew1 | refine below_set ?_ GE275.out) | exact HB.out)))); have n1_ := blkS BK275 hb; have n2_ := Aside0.mk (below_step (by repeat (first | (with_reducible first | exact HB.out | apply below_alloc | apply pw_below_drewN | apply below_drew1 | refine below_set ?_ GE275.out) | exact HB.out)) hb); clear BK275; clear HB; have HO279 := n0_; have BK275 := n1_; have HB := n2_; clear n0_ n1_ n2_; clear hb ho28; obtain ⟨Ao29, co29, eo29⟩ := Kd.R_slice HO279.out; subst eo29) | (go_at_call 16; (with_reducible refine (schema_Check.calls kj8 _ _ y277 t280 _ ?side1 ?side2 A18.out).mono ?_); (case side1 => repeat (first | exact (Kd.R_reads' HO279.out).2.2 | (with_reducible refine Kd.C_alloc ?_ _) | (with_reducible refine Kd.C_drewN ?_ _) | (with_reducible refine Kd.C_drew ?_))); (case side2 => exact (Kd.R_reads' HO279.out).2.1); rintro e w30 ⟨rfl, hb⟩; (try clear A18); have n0_ := Aside0.mk (Kd.R_below (by (with_reducible repeat (first | apply Kd.R_alloc | apply Kd.R_drewN | apply Kd.R_drew)); exact HO279.out) hb); have n1_ := blkS BK275 hb; have n2_ := Aside0.mk (below_step (by repeat (first | (with_reducible first | exact HB.out | apply below_alloc | apply pw_below_drewN | apply below_drew1 | refine below_set ?_ GE275.out) | exact HB.out)) hb); clear HO279; clear BK275; clear HB; have HO279 := n0_; have BK275 := n1_; have HB := n2_; clear n0_ n1_ n2_; (try clear hb); (try clear hb2); (try clear hk); (try clear hi)))
                      repeat (go_quiet (first | ((with_reducible refine gate_dst (N := 43) rfl ?_); (try (refine gate_guard (by rfl) ?_; dsimp only)); refine Kd.R_lit k42 _ 42 ?hg (N := 43) ?hd (xs := ([(⟨((rd_T42 l0 x4_2).f0), ((rd_T42 l0 x4_2).f1), ((rd_T42 l0 x4_2).f2)⟩ : S42)] : List (S42))) (inner := [.string ((rd_T42 l0 x4_2).f0), .int .i64 ((rd_T42 l0 x4_2).f1), .bool ((rd_T42 l0 x4_2).f2)]) (ok := fun _ => True) (okp := fun _ => True) ?hr ?hp (fun _ hk => hk) trivial (Below.refl _ _) (Nat.le_refl _) (by simp) ?_; (case hd => rfl); (case hg => rfl); (case hr => first | (go_simp; done) | (go_simp; rfl)); (case hp => exact (Reps.c3 (show Kd.M k42 _ _ _ (⟨((rd_T42 l0 x4_2).f0), ((rd_T42 l0 x4_2).f1), ((rd_T42 l0 x4_2).f2)⟩ : S42) [.string ((rd_T42 l0 x4_2).f0), .int .i64 ((rd_T42 l0 x4_2).f1), .bool ((rd_T42 l0 x4_2).f2)] from (k42_mkM _ _ _ (⟨((rd_T42 l0 x4_2).f0), ((rd_T42 l0 x4_2).f1), ((rd_T42 l0 x4_2).f2)⟩ : S42) )) (Reps.none _ _))); intro v278 w27 ho28 hb hg_ hnew_; clear hg_ hnew_; (first | rw [← Ny277.out] at ho28 | (simp only [Int.reduceToNat] at ho28; rw [← Ny277.out] at ho28)); have n0_ := Aside0.mk (Kd.R_lower (Kd.R_newB ho28 (g := gb275) (o := .cells #[.string ((rd_T42 l0 x4_2).f0), .int .i64 ((rd_T42 l0 x4_2).f1), .bool ((rd_T42 l0 x4_2).f2)] 42 (0, 0)) (by (with_reducible repeat (first | refine blk_drewN ?_ _ | refine blk_drew ?_ | refine blk_alloc ?_ _)); exact BK275.out)) (below_size (by repeat (first | (with_reducible first | exact HB.out | apply below_alloc | apply pw_below_drewN | apply below_drew1 | refine below_set ?_ GE275.out) | exact HB.out)))); have n1_ := blkS BK275 hb; have n2_ := Aside0.mk (below_step (by repeat (first | (with_reducible first | exact HB.out | apply below_alloc | apply pw_below_drewN | apply below_drew1 | refine below_set ?_ GE275.out) | exact HB.out)) hb); clear BK275; clear HB; have HO279 := n0_; have BK275 := n1_; have HB := n2_; clear n0_ n1_ n2_; clear hb ho28; obtain ⟨Ao29, co29, eo29⟩ := Kd.R_slice HO279.out; subst eo29) | (go_at_call 16; (with_reducible refine (schema_Check.calls kj8 _ _ y277 t280 _ ?side1 ?side2 A18.out).mono ?_); (case side1 => repeat (first | exact (Kd.R_reads' HO279.out).2.2 | (with_reducible refine Kd.C_alloc ?_ _) | (with_reducible refine Kd.C_drewN ?_ _) | (with_reducible refine Kd.C_drew ?_))); (case side2 => exact (Kd.R_reads' HO279.out).2.1); rintro e w30 ⟨rfl, hb⟩; (try clear A18); have n0_ := Aside0.mk (Kd.R_below (by (with_reducible repeat (first | apply Kd.R_alloc | apply Kd.R_drewN | apply Kd.R_drew)); exact HO279.out) hb); have n1_ := blkS BK275 hb; have n2_ := Aside0.mk (below_step (by repeat (first | (with_reducible first | exact HB.out | apply below_alloc | apply pw_below_drewN | apply below_drew1 | refine below_set ?_ GE275.out) | exact HB.out)) hb); clear HO279; clear BK275; clear HB; have HO279 := n0_; have BK275 := n1_; have HB := n2_; clear n0_ n1_ n2_; (try clear hb); (try clear hb2); (try clear hk); (try clear hi))); go_upto_region 11 with (first | ((with_reducible refine gate_dst (N := 43) rfl ?_); (try (refine gate_guard (by rfl) ?_; dsimp only)); refine Kd.R_lit k42 _ 42 ?hg (N := 43) ?hd (xs := ([(⟨((rd_T42 l0 x4_2).f0), ((rd_T42 l0 x4_2).f1), ((rd_T42 l0 x4_2).f2)⟩ : S42)] : List (S42))) (inner := [.string ((rd_T42 l0 x4_2).f0), .int .i64 ((rd_T42 l0 x4_2).f1), .bool ((rd_T42 l0 x4_2).f2)]) (ok := fun _ => True) (okp := fun _ => True) ?hr ?hp (fun _ hk => hk) trivial (Below.refl _ _) (Nat.le_refl _) (by simp) ?_; (case hd => rfl); (case hg => rfl); (case hr => first | (go_simp; done) | (go_simp; rfl)); (case hp => exact (Reps.c3 (show Kd.M k42 _ _ _ (⟨((rd_T42 l0 x4_2).f0), ((rd_T42 l0 x4_2).f1), ((rd_T42 l0 x4_2).f2)⟩ : S42) [.string ((rd_T42 l0 x4_2).f0), .int .i64 ((rd_T42 l0 x4_2).f1), .bool ((rd_T42 l0 x4_2).f2)] from (k42_mkM _ _ _ (⟨((rd_T42 l0 x4_2).f0), ((rd_T42 l0 x4_2).f1), ((rd_T42 l0 x4_2).f2)⟩ : S42) )) (Reps.none _ _))); intro v278 w27 ho28 hb hg_ hnew_; clear hg_ hnew_; (first | rw [← Ny277.out] at ho28 | (simp only [Int.reduceToNat] at ho28; rw [← Ny277.out] at ho28)); have n0_ := Aside0.mk (Kd.R_lower (Kd.R_newB ho28 (g := gb275) (o := .cells #[.string ((rd_T42 l0 x4_2).f0), .int .i64 ((rd_T42 l0 x4_2).f1), .bool ((rd_T42 l0 x4_2).f2)] 42 (0, 0)) (by (with_reducible repeat (first | refine blk_drewN ?_ _ | refine blk_drew ?_ | refine blk_alloc ?_ _)); exact BK275.out)) (below_size (by repeat (first | (with_reducible first | exact HB.out | apply below_alloc | apply pw_below_drewN | apply below_drew1 | refine below_set ?_ GE275.out) | exact HB.out)))); have n1_ := blkS BK275 hb; have n2_ := Aside0.mk (below_step (by repeat (first | (with_reducible first | exact HB.out | apply below_alloc | apply pw_below_drewN | apply below_drew1 | refine below_set ?_ GE275.out) | exact HB.out)) hb); clear BK275; clear HB; have HO279 := n0_; have BK275 := n1_; have HB := n2_; clear n0_ n1_ n2_; clear hb ho28; obtain ⟨Ao29, co29, eo29⟩ := Kd.R_slice HO279.out; subst eo29) | (go_at_call 16; (with_reducible refine (schema_Check.calls kj8 _ _ y277 t280 _ ?side1 ?side2 A18.out).mono ?_); (case side1 => repeat (first | exact (Kd.R_reads' HO279.out).2.2 | (with_reducible refine Kd.C_alloc ?_ _) | (with_reducible refine Kd.C_drewN ?_ _) | (with_reducible refine Kd.C_drew ?_))); (case side2 => exact (Kd.R_reads' HO279.out).2.1); rintro e w30 ⟨rfl, hb⟩; (try clear A18); have n0_ := Aside0.mk (Kd.R_below (by (with_reducible repeat (first | apply Kd.R_alloc | apply Kd.R_drewN | apply Kd.R_drew)); exact HO279.out) hb); have n1_ := blkS BK275 hb; have n2_ := Aside0.mk (below_step (by repeat (first | (with_reducible first | exact HB.out | apply below_alloc | apply pw_below_drewN | apply below_drew1 | refine below_set ?_ GE275.out) | exact HB.out)) hb); clear HO279; clear BK275; clear HB; have HO279 := n0_; have BK275 := n1_; have HB := n2_; clear n0_ n1_ n2_; (try clear hb); (try clear hb2); (try clear hk); (try clear hi))))
                      (try simp only [Act.put, List.setIfInBounds_toArray, List.set_cons_zero, List.set_cons_succ])
                      go_cut [3] (fun v3 wc => ∃ (kq : Nat) (x3_24 : Bool), v3 = .bool x3_24 ∧ Aside0 (colonnadelaw15_SchemaRules.j3 kq l0 x3_24 x4_2 ((rd_T42 l0 x4_2).f0) ((rd_T42 l0 x4_2).f1) ((rd_T42 l0 x4_2).f2) = some r) ∧ Aside0 (kq ≤ kj8) ∧ Aside0 (wc.heap[gb275]? = some (.cells #[.string ((rd_T42 l0 x4_2).f0), .int .i64 ((rd_T42 l0 x4_2).f1), .bool ((rd_T42 l0 x4_2).f2)] 42 (0, 0))) ∧ Aside0 (Below w.heap.size w wc))
                      case first =>
                        have H := HC25.out
                        clear HC25
                        by_cases c31 : x3_2 = true
                        · subst c31
                          have H1 : (colonnadelaw15_SchemaRules.j3 kj8 l0 x6_8 x4_2 ((rd_T42 l0 x4_2).f0) ((rd_T42 l0 x4_2).f1) ((rd_T42 l0 x4_2).f2)) = some r := by rw [if_pos rfl] at H; exact H
                          clear H
                          have H := H1
                          clear H1
                          have H' := Aside0.mk H
                          clear H
                          go_wp2
                          repeat (go_quiet (fail); try go_wp2)
                          go_meet
                          case rel => exact ⟨_, (x6_8), (by first | rfl | (simp; done) | (simp [*]; done)), H', ⟨by have := HJ3.out; have := HK2.out; have := HJ8.out; first | omega | exact Nat.le_refl _⟩, ⟨by (with_reducible repeat (first | refine blk_drewN ?_ _ | refine blk_drew ?_ | refine blk_alloc ?_ _)); exact BK275.out⟩, ⟨by repeat (first | (with_reducible first | exact HB.out | apply below_alloc | apply pw_below_drewN | apply below_drew1 | refine below_set ?_ GE275.out) | exact HB.out)⟩⟩
                        · replace c31 := Bool.eq_false_iff.mpr c31
                          subst c31
                          have H1 : (colonnadelaw15_SchemaRules.j3 kj8 l0 false x4_2 ((rd_T42 l0 x4_2).f0) ((rd_T42 l0 x4_2).f1) ((rd_T42 l0 x4_2).f2)) = some r := by rw [if_neg (show ¬ (false = true) by decide)] at H; exact H
                          clear H
                          have H := H1
                          clear H1
                          have H' := Aside0.mk H
                          clear H
                          go_wp2
                          repeat (go_quiet (fail); try go_wp2)
                          go_meet
                          case rel => exact ⟨_, (false), (by first | rfl | (simp; done) | (simp [*]; done)), H', ⟨by have := HJ3.out; have := HK2.out; have := HJ8.out; first | omega | exact Nat.le_refl _⟩, ⟨by (with_reducible repeat (first | refine blk_drewN ?_ _ | refine blk_drew ?_ | refine blk_alloc ?_ _)); exact BK275.out⟩, ⟨by repeat (first | (with_reducible first | exact HB.out | apply below_alloc | apply pw_below_drewN | apply below_drew1 | refine below_set ?_ GE275.out) | exact HB.out)⟩⟩
                      case rest =>
                        clear HC25
                        try clear c1
                        try clear p2
                        try clear q2
                        try clear hx2
                        try clear c3
                        try clear c6
                        try clear c6b0
                        try clear c6b1
                        try clear c7
                        try clear c7b0
                        try clear c8
                        try clear c8b0
                        try clear c13
                        try clear c14
                        try clear c14b0
                        try clear c14b1
                        try clear c19
                        try clear c19b0
                        try clear c19b1
                        try clear c19b2
                        try clear p27
                        try clear q27
                        try clear hx27
                        try clear c31
                        try clear hcz11_0
                        try clear hcz11_1
                        try clear hcz11_2
                        try clear hcz15_0
                        try clear hcz15_1
                        try clear hcz15_2
                        try clear hcz16_0
                        try clear hcz16_1
                        try clear hcz16_2
                        try clear hcz17_0
                        try clear hcz17_1
                        try clear hcz17_2
                        try clear hcz20_0
                        try clear hcz20_1
                        try clear hcz20_2
                        try clear hcz26_0
                        try clear hcz26_1
                        try clear hcz26_2
                        try clear hfz11_0
                        try clear hfz11_1
                        try clear hfz11_2
                        try clear hfz15_0
                        try clear hfz15_1
                        try clear hfz15_2
                        try clear hfz16_0
                        try clear hfz16_1
                        try clear hfz16_2
                        try clear hfz17_0
                        try clear hfz17_1
                        try clear hfz17_2
                        try clear hfz20_0
                        try clear hfz20_1
                        try clear hfz20_2
                        try clear hfz26_0
                        try clear hfz26_1
                        try clear hfz26_2
                        try clear hx274_0
                        try clear hx274_1
                        try clear hx274_2
                        try clear p2
                        try clear p274
                        try clear q2
                        try clear q274
                        obtain ⟨kq, x3_24, rfl, HA, HJ24, BK275, HB⟩ := hcut
                        cases kq with
                        | zero => exact absurd HA.out (by simp [colonnadelaw15_SchemaRules.j3])
                        | succ kj24 =>
                          have H := HA.out
                          clear HA
                          simp only [colonnadelaw15_SchemaRules.j3] at H
                          have H' := Aside0.mk H
                          clear H
                          go_wp2
                          repeat (go_quiet (fail); try go_wp2)
                          go_loopg [3, 7] kj24 (fun kq v3 v7 w' => ∃ (x3_5 : Bool) (x7_5 : Int), v3 = .bool x3_5 ∧ v7 = .int .i64 x7_5 ∧ Aside0 (colonnadelaw15_SchemaRules.l1 kq l0 x3_5 x4_2 x7_5 ((rd_T42 l0 x4_2).f0) ((rd_T42 l0 x4_2).f1) ((rd_T42 l0 x4_2).f2) = some r) ∧ Aside0 (kq ≤ kj24) ∧ Aside0 (w'.heap[gb275]? = some (.cells #[.string ((rd_T42 l0 x4_2).f0), .int .i64 ((rd_T42 l0 x4_2).f1), .bool ((rd_T42 l0 x4_2).f2)] 42 (0, 0))) ∧ Aside0 (Below w.heap.size w w'))
                          case atStart => exact ⟨(x3_24), (0), (by first | rfl | (simp; done) | (simp [*]; done)), (by first | rfl | (simp; done) | (simp [*]; done)), H', ⟨Nat.le_refl _⟩, ⟨by (with_reducible repeat (first | refine blk_drewN ?_ _ | refine blk_drew ?_ | refine blk_alloc ?_ _)); exact BK275.out⟩, ⟨by repeat (first | (with_reducible first | exact HB.out | apply below_alloc | apply pw_below_drewN | apply below_drew1 | refine below_set ?_ GE275.out) | exact HB.out)⟩⟩
                          case round =>
                            clear H'
                            try clear c1
                            try clear p2
                            try clear q2
                            try clear hx2
                            try clear c3
                            try clear c6
                            try clear c6b0
                            try clear c6b1
                            try clear c7
                            try clear c7b0
                            try clear c8
                            try clear c8b0
                            try clear c13
                            try clear c14
                            try clear c14b0
                            try clear c14b1
                            try clear c19
                            try clear c19b0
                            try clear c19b1
                            try clear c19b2
                            try clear p27
                            try clear q27
                            try clear hx27
                            try clear c31
                            try clear hcz11_0
                            try clear hcz11_1
                            try clear hcz11_2
                            try clear hcz15_0
                            try clear hcz15_1
                            try clear hcz15_2
                            try clear hcz16_0
                            try clear hcz16_1
                            try clear hcz16_2
                            try clear hcz17_0
                            try clear hcz17_1
                            try clear hcz17_2
                            try clear hcz20_0
                            try clear hcz20_1
                            try clear hcz20_2
                            try clear hcz26_0
                            try clear hcz26_1
                            try clear hcz26_2
                            try clear hfz11_0
                            try clear hfz11_1
                            try clear hfz11_2
                            try clear hfz15_0
                            try clear hfz15_1
                            try clear hfz15_2
                            try clear hfz16_0
                            try clear hfz16_1
                            try clear hfz16_2
                            try clear hfz17_0
                            try clear hfz17_1
                            try clear hfz17_2
                            try clear hfz20_0
                            try clear hfz20_1
                            try clear hfz20_2
                            try clear hfz26_0
                            try clear hfz26_1
                            try clear hfz26_2
                            try clear hx274_0
                            try clear hx274_1
                            try clear hx274_2
                            try clear p2
                            try clear p27
                            try clear p274
                            try clear q2
                            try clear q27
                            try clear q274
                            obtain ⟨x3_5, x7_5, rfl, rfl, HA, HK5, BK275, HB⟩ := hrel
                            cases gk with
                            | zero => exact absurd HA.out (by simp [colonnadelaw15_SchemaRules.l1])
                            | succ k5 =>
                              have H := HA.out
                              clear HA
                              simp only [colonnadelaw15_SchemaRules.l1] at H
                              by_cases c32 : x7_5 < x4_2
                              · rw [if_pos c32] at H
                                have c32b0 : decide (x7_5 < x4_2) = true := decide_eq_true c32
                                clear c32
                                by_cases c33 : x3_5 = true
                                · subst c33
                                  have H1 : (if 0 ≤ x7_5 then (if x7_5 < (l0.length : Int) then (colonnadelaw15_SchemaRules.l1 k5 l0 (((rd_T42 l0 x7_5).f0).toList != ((rd_T42 l0 x4_2).f0).toList) x4_2 (wrap64 (x7_5 + 1)) ((rd_T42 l0 x4_2).f0) ((rd_T42 l0 x4_2).f1) ((rd_T42 l0 x4_2).f2)) else (none)) else (none)) = some r := by rw [if_pos rfl] at H; exact H
                                  clear H
                                  have H := H1
                                  clear H1
                                  by_cases c34 : 0 ≤ x7_5
                                  · rw [if_pos c34] at H
                                    have c34b0 : decide (0 ≤ x7_5) = true := decide_eq_true c34
                                    clear c34
                                    by_cases c35 : x7_5 < (l0.length : Int)
                                    · rw [if_pos c35] at H
                                      have c35b0 : decide (x7_5 < (l0.length : Int)) = true := decide_eq_true c35
                                      clear c35
                                      have H' := Aside0.mk H
                                      clear H
                                      have p281 : 0 ≤ (x7_5 : Int) := of_decide_eq_true (by first | (with_reducible assumption) | assumption)
                                      have q281 : x7_5 < (l0.length : Int) := of_decide_eq_true (by first | (with_reducible assumption) | assumption)
                                      obtain ⟨ad281, e281, hx281_0, hx281_1, hx281_2⟩ := at_T42 HR0.out x7_5 p281 q281
                                      obtain rfl : ad274 = ad281 := (by injection e281)
                                      replace hx281_0 := (HB.out.cell (World.block_lt_of_cell? w _ hx281_0)).trans hx281_0
                                      replace hx281_1 := (HB.out.cell (World.block_lt_of_cell? w _ hx281_1)).trans hx281_1
                                      replace hx281_2 := (HB.out.cell (World.block_lt_of_cell? w _ hx281_2)).trans hx281_2
                                      replace p281 := eq_true p281
                                      replace q281 := eq_true q281
                                      have hcz36_0 : wr.cell? ⟨gb275, 0, none⟩ = some (.string ((rd_T42 l0 x4_2).f0)) := (blk_cell BK275.out 0).trans rfl
                                      have hcz36_1 : wr.cell? ⟨gb275, 1, none⟩ = some (.int .i64 ((rd_T42 l0 x4_2).f1)) := (blk_cell BK275.out 1).trans rfl
                                      have hcz36_2 : wr.cell? ⟨gb275, 2, none⟩ = some (.bool ((rd_T42 l0 x4_2).f2)) := (blk_cell BK275.out 2).trans rfl
                                      have hfz36_0 := blk_frozen BK275.out 0
                                      have hfz36_1 := blk_frozen BK275.out 1
                                      have hfz36_2 := blk_frozen BK275.out 2
                                      go_wp2
                                      repeat (go_quiet (fail); try go_wp2)
                                      go_roundg k5
                                      case measure => have := HJ3.out; have := HK2.out; have := HJ8.out; have := HJ24.out; have := HK5.out; omega
                                      case rel => exact ⟨((((rd_T42 l0 x7_5).f0).toList != ((rd_T42 l0 x4_2).f0).toList)), (wrap64 (x7_5 + 1)), (by first | rfl | (simp; done) | (simp [*]; done)), (by first | rfl | (simp; done) | (simp [*]; done)), H', ⟨by have := HJ3.out; have := HK2.out; have := HJ8.out; have := HJ24.out; have := HK5.out; omega⟩, ⟨by (with_reducible repeat (first | refine blk_drewN ?_ _ | refine blk_drew ?_ | refine blk_alloc ?_ _)); exact BK275.out⟩, ⟨by repeat (first | (with_reducible first | exact HB.out | apply below_alloc | apply pw_below_drewN | apply below_drew1 | refine below_set ?_ GE275.out) | exact HB.out)⟩⟩
                                    · rw [if_neg c35] at H
                                      exact absurd H (by simp)
                                  · rw [if_neg c34] at H
                                    exact absurd H (by simp)
                                · replace c33 := Bool.eq_false_iff.mpr c33
                                  subst c33
                                  have H1 : (colonnadelaw15_SchemaRules.l1 k5 l0 false x4_2 (wrap64 (x7_5 + 1)) ((rd_T42 l0 x4_2).f0) ((rd_T42 l0 x4_2).f1) ((rd_T42 l0 x4_2).f2)) = some r := by rw [if_neg (show ¬ (false = true) by decide)] at H; exact H
                                  clear H
                                  have H := H1
                                  clear H1
                                  have H' := Aside0.mk H
                                  clear H
                                  go_wp2
                                  repeat (go_quiet (fail); try go_wp2)
                                  go_roundg k5
                                  case measure => have := HJ3.out; have := HK2.out; have := HJ8.out; have := HJ24.out; have := HK5.out; omega
                                  case rel => exact ⟨(false), (wrap64 (x7_5 + 1)), (by first | rfl | (simp; done) | (simp [*]; done)), (by first | rfl | (simp; done) | (simp [*]; done)), H', ⟨by have := HJ3.out; have := HK2.out; have := HJ8.out; have := HJ24.out; have := HK5.out; omega⟩, ⟨by (with_reducible repeat (first | refine blk_drewN ?_ _ | refine blk_drew ?_ | refine blk_alloc ?_ _)); exact BK275.out⟩, ⟨by repeat (first | (with_reducible first | exact HB.out | apply below_alloc | apply pw_below_drewN | apply below_drew1 | refine below_set ?_ GE275.out) | exact HB.out)⟩⟩
                              · rw [if_neg c32] at H
                                have c32b0 : decide (x7_5 < x4_2) = false := decide_eq_false c32
                                clear c32
                                have H' := Aside0.mk H
                                clear H
                                go_wp2
                                repeat (go_quiet (fail); try go_wp2)
                                go_roundg k5
                                case measure => have := HJ3.out; have := HK2.out; have := HJ8.out; have := HJ24.out; have := HK5.out; omega
                                case rel => exact ⟨(x3_5), (wrap64 (x4_2 + 1)), (by first | rfl | (simp; done) | (simp [*]; done)), (by first | rfl | (simp; done) | (simp [*]; done)), H', ⟨by have := HJ3.out; have := HK2.out; have := HJ8.out; have := HJ24.out; have := HK5.out; omega⟩, ⟨by repeat (first | (with_reducible first | exact HB.out | apply below_alloc | apply pw_below_drewN | apply below_drew1 | refine below_set ?_ GE275.out) | exact HB.out)⟩⟩
              · rw [if_neg c8] at H
                exact absurd H (by simp)
            · rw [if_neg c7] at H
              have c7b0 : decide (x4_2 < (l0.length : Int)) = false := decide_eq_false c7
              clear c7
              replace H := Option.bind_eq_some_iff.mp H
              obtain ⟨t273, A370, H⟩ := H
              replace H : (if ((t273 == 0) == x3_2) = true then (if t273 = 0 then (some true) else (some (t273 == 150))) else (some false)) = some r := H
              have A37 := Aside0.mk A370
              clear A370
              by_cases c38 : ((t273 == 0) == x3_2) = true
              · rw [if_pos c38] at H
                have c38b0 : ((t273 == 0) == x3_2) = true := c38
                (try (have c38b1 : decide ((t273 == 0) = x3_2) = true := by simpa using c38))
                (try (have c38b2 : ((t273 == 0) == x3_2) = true := by simpa using c38))
                clear c38
                by_cases c39 : t273 = 0
                · rw [if_pos c39] at H
                  have c39b0 : (t273 == 0) = true := beq_iff_eq.mpr c39
                  have c39b1 : (t273 != 0) = false := bne_eq_false_iff_eq.mpr c39
                  obtain rfl : x3_2 = true := by cases x3_2 <;> simp_all
                  (try clear c38b0); (try clear c38b1); (try clear c38b2)
                  clear c39
                  obtain rfl := Option.some.inj H
                  go_wp2_with (first | (go_at_call 16; (with_reducible refine (schema_Check.calls k2 _ _ l0 t273 _ ?side1 ?side2 A37.out).mono ?_); (case side1 => repeat (first | exact (Kd.C_below HR0.out HB.out) | (with_reducible refine Kd.C_alloc ?_ _) | (with_reducible refine Kd.C_drewN ?_ _) | (with_reducible refine Kd.C_drew ?_))); (case side2 => exact HC0.out); rintro e w40 ⟨rfl, hb⟩; (try clear A37); have n0_ := Aside0.mk (below_step (by repeat (first | (with_reducible first | exact HB.out | apply below_alloc | apply pw_below_drewN | apply below_drew1) | exact HB.out)) hb); clear HB; have HB := n0_; clear n0_; (try clear hb); (try clear hb2); (try clear hk); (try clear hi)))
                  repeat (go_quiet (first | (go_at_call 16; (with_reducible refine (schema_Check.calls k2 _ _ l0 t273 _ ?side1 ?side2 A37.out).mono ?_); (case side1 => repeat (first | exact (Kd.C_below HR0.out HB.out) | (with_reducible refine Kd.C_alloc ?_ _) | (with_reducible refine Kd.C_drewN ?_ _) | (with_reducible refine Kd.C_drew ?_))); (case side2 => exact HC0.out); rintro e w40 ⟨rfl, hb⟩; (try clear A37); have n0_ := Aside0.mk (below_step (by repeat (first | (with_reducible first | exact HB.out | apply below_alloc | apply pw_below_drewN | apply below_drew1) | exact HB.out)) hb); clear HB; have HB := n0_; clear n0_; (try clear hb); (try clear hb2); (try clear hk); (try clear hi))); try go_wp2_with (first | (go_at_call 16; (with_reducible refine (schema_Check.calls k2 _ _ l0 t273 _ ?side1 ?side2 A37.out).mono ?_); (case side1 => repeat (first | exact (Kd.C_below HR0.out HB.out) | (with_reducible refine Kd.C_alloc ?_ _) | (with_reducible refine Kd.C_drewN ?_ _) | (with_reducible refine Kd.C_drew ?_))); (case side2 => exact HC0.out); rintro e w40 ⟨rfl, hb⟩; (try clear A37); have n0_ := Aside0.mk (below_step (by repeat (first | (with_reducible first | exact HB.out | apply below_alloc | apply pw_below_drewN | apply below_drew1) | exact HB.out)) hb); clear HB; have HB := n0_; clear n0_; (try clear hb); (try clear hb2); (try clear hk); (try clear hi))))
                  go_ret
                  exact ⟨by first | rfl | (simp [errW_none, errW_some] <;> rfl) | (simp [*, errW_none, errW_some] <;> rfl), by repeat (first | (with_reducible first | exact HB.out | apply below_alloc | apply pw_below_drewN | apply below_drew1) | exact HB.out)⟩
                · rw [if_neg c39] at H
                  have c39b0 : (t273 == 0) = false := beq_eq_false_iff_ne.mpr c39
                  have c39b1 : (t273 != 0) = true := bne_iff_ne.mpr c39
                  obtain rfl : x3_2 = false := by cases x3_2 <;> simp_all
                  (try clear c38b0); (try clear c38b1); (try clear c38b2)
                  obtain rfl := Option.some.inj H
                  go_wp2_with (first | (go_at_call 16; (with_reducible refine (schema_Check.calls k2 _ _ l0 t273 _ ?side1 ?side2 A37.out).mono ?_); (case side1 => repeat (first | exact (Kd.C_below HR0.out HB.out) | (with_reducible refine Kd.C_alloc ?_ _) | (with_reducible refine Kd.C_drewN ?_ _) | (with_reducible refine Kd.C_drew ?_))); (case side2 => exact HC0.out); rintro e w41 ⟨rfl, hb⟩; (try clear A37); have n0_ := Aside0.mk (below_step (by repeat (first | (with_reducible first | exact HB.out | apply below_alloc | apply pw_below_drewN | apply below_drew1) | exact HB.out)) hb); clear HB; have HB := n0_; clear n0_; (try clear hb); (try clear hb2); (try clear hk); (try clear hi)))
                  repeat (go_quiet (first | (go_at_call 16; (with_reducible refine (schema_Check.calls k2 _ _ l0 t273 _ ?side1 ?side2 A37.out).mono ?_); (case side1 => repeat (first | exact (Kd.C_below HR0.out HB.out) | (with_reducible refine Kd.C_alloc ?_ _) | (with_reducible refine Kd.C_drewN ?_ _) | (with_reducible refine Kd.C_drew ?_))); (case side2 => exact HC0.out); rintro e w41 ⟨rfl, hb⟩; (try clear A37); have n0_ := Aside0.mk (below_step (by repeat (first | (with_reducible first | exact HB.out | apply below_alloc | apply pw_below_drewN | apply below_drew1) | exact HB.out)) hb); clear HB; have HB := n0_; clear n0_; (try clear hb); (try clear hb2); (try clear hk); (try clear hi))); try go_wp2_with (first | (go_at_call 16; (with_reducible refine (schema_Check.calls k2 _ _ l0 t273 _ ?side1 ?side2 A37.out).mono ?_); (case side1 => repeat (first | exact (Kd.C_below HR0.out HB.out) | (with_reducible refine Kd.C_alloc ?_ _) | (with_reducible refine Kd.C_drewN ?_ _) | (with_reducible refine Kd.C_drew ?_))); (case side2 => exact HC0.out); rintro e w41 ⟨rfl, hb⟩; (try clear A37); have n0_ := Aside0.mk (below_step (by repeat (first | (with_reducible first | exact HB.out | apply below_alloc | apply pw_below_drewN | apply below_drew1) | exact HB.out)) hb); clear HB; have HB := n0_; clear n0_; (try clear hb); (try clear hb2); (try clear hk); (try clear hi))))
                  go_ret
                  exact ⟨by first | rfl | (simp [errW_none, errW_some] <;> rfl) | (simp [*, errW_none, errW_some] <;> rfl), by repeat (first | (with_reducible first | exact HB.out | apply below_alloc | apply pw_below_drewN | apply below_drew1) | exact HB.out)⟩
              · rw [if_neg c38] at H
                exact absurd ((Option.some.inj H).trans htrue.out) (by decide)
  · replace c3 := Bool.eq_false_iff.mpr c3
    subst c3
    have H1 : (some false) = some r := by rw [if_neg (show ¬ (false = true) by decide)] at H; exact H
    exact absurd ((Option.some.inj H1).trans htrue.out) (by decide)
end Go.Proofs.Ytdiabhfphonciaa.Pa
