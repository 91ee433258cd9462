/- Lists that are handed in with marks behind them: lent, lentValues. The walks' text is the print's, turned by mklent.py. -/
import Derived.Test.YtgmeefgihidomaaPa0
import Derived.Test.YtgmeefgihidomaaL
import Derived.Test.YtgmeefgihidomaaT
import Derived.Test.YtgmeefgihidomaaPa2
namespace Go.Proofs.Ytgmeefgihidomaa.Pa
open Go.RowKit Go.Proofs.YtgmeefgihidomaaW.PrintWords Go.Proofs.YtgmeefgihidomaaW.PrintLast Go.Proofs.YtgmeefgihidomaaW.PrintMore
attribute [local go_sem] max2_int min2_int max_two min_two max_three min_three max_four min_four
attribute [local go_sem] run_store_float cmp_feq cmp_fne cmp_flt cmp_fle cmp_fgt cmp_fge un_fneg equalIn_feq ext_bits ext_frombits
set_option linter.unusedVariables false
set_option linter.unusedSimpArgs false

/-! ### colonnadelaw13_lent: function 10 -/
def colonnadelaw13_lentw.l0 : Nat → List Int → List Int → Int → Option (List Int)
  | 0, _, _, _ => none
  | k + 1, x0, x3, x4 => if x4 < 20 then (if x3.length < 140737488355328 then (colonnadelaw13_lentw.l0 k x0 (x3 ++ [(wrap64 (201 + x4)) % 256]) (wrap64 (x4 + 1))) else (none)) else (if 0 ≤ (x0.length : Int) then (if (x0.length : Int) ≤ (x3.length : Int) then (some x3) else (none)) else (none))
def colonnadelaw13_lentw.f (k : Nat) (l0 : List Int) : Option (List Int) := if ([] : List Int).length + l0.length < 140737488355328 then (colonnadelaw13_lentw.l0 k l0 (([] : List Int) ++ l0) 0) else (none)
theorem colonnadelaw13_lentw.mono_l : ∀ k, (∀ y0 y1 y2, LeO (colonnadelaw13_lentw.l0 k y0 y1 y2) (colonnadelaw13_lentw.l0 (k + 1) y0 y1 y2))
  | 0 => fun _ _ _ r h => by simp [colonnadelaw13_lentw.l0] at h
  | k + 1 => by
    have ih0 := colonnadelaw13_lentw.mono_l k
    · intro y0 y1 y2
      unfold colonnadelaw13_lentw.l0
      repeat' first
      | (with_reducible exact ih0 _ _ _)
      | (with_reducible exact LeO.refl _)
      | (with_reducible exact LeO.none _)
      | (with_reducible refine LeO.ite ?_ ?_)
      | (with_reducible refine LeO.bind ?_ (fun _ => ?_))
      | exact ih0 _ _ _
      | exact LeO.none _
      | refine LeO.ite ?_ ?_
      | refine LeO.bind ?_ (fun _ => ?_)
theorem colonnadelaw13_lentw.mono : ∀ a0 k, LeO (colonnadelaw13_lentw.f k a0) (colonnadelaw13_lentw.f (k + 1) a0) := by
  intro a0 k
  have ih0 := colonnadelaw13_lentw.mono_l k
  unfold colonnadelaw13_lentw.f
  repeat' first
      | (with_reducible exact ih0 _ _ _)
      | (with_reducible exact LeO.refl _)
      | (with_reducible exact LeO.none _)
      | (with_reducible refine LeO.ite ?_ ?_)
      | (with_reducible refine LeO.bind ?_ (fun _ => ?_))
      | exact ih0 _ _ _
      | exact LeO.none _
      | refine LeO.ite ?_ ?_
      | refine LeO.bind ?_ (fun _ => ?_)
set_option maxHeartbeats 8000000 in
set_option maxRecDepth 100000 in
theorem colonnadelaw13_lentw.calls (k : Nat) (A0 : Option Addr) (c0 : Nat) (l0 : List Int) (r : List Int) (w : World) (hr0 : Kd.C (Kd.int .u8) w A0 l0.length l0) (hc0 : l0.length ≤ c0) (h : colonnadelaw13_lentw.f k l0 = some r) :
    Calls Try.prog 10 #[.slice A0 l0.length c0] w fun e w' => ∃ v0_ : Value, e = .returned (v0_) ∧ (l0.length ≤ r.length ∧ ∃ A c, v0_ = .slice A l0.length c ∧ Kd.R (Kd.int .u8) 5 w' w.heap.size (fun _ => True) (.slice A r.length c) r) ∧ Below w.heap.size w w' := by
  have HR0 := Aside0.mk hr0
  have HC0 := Aside0.mk hc0
  clear hr0 hc0
  have HB := Aside0.mk (Below.refl w.heap.size w)
  have H : (if ([] : List Int).length + l0.length < 140737488355328 then (colonnadelaw13_lentw.l0 k l0 (([] : List Int) ++ l0) 0) else (none)) = some r := h
  clear h
  by_cases c2 : ([] : List Int).length + l0.length < 140737488355328
  · rw [if_pos c2] at H
    have LMc2 := Aside0.mk c2
    clear c2
    obtain ⟨y101, hy101⟩ : ∃ y_ : List Int, y_ = (([] : List Int) ++ l0) := ⟨_, rfl⟩
    replace H : (colonnadelaw13_lentw.l0 k l0 y101 0) = some r := by first | (rw [hy101]; with_reducible exact H) | (have H2_ := (Option.bind_some _ _).symm.trans H; rw [hy101]; with_reducible exact H2_) | (have H2_ := (Option.bind_some _ _).symm.trans H; with_reducible exact H2_) | with_reducible exact H | (rw [hy101]; exact H) | exact H
    have Ny101 := Aside0.mk hy101
    clear hy101
    have H' := Aside0.mk H
    clear H
    go_enter Try.func10, Try.ntmps10
    go_wp2_with (first | ((with_reducible refine gate_builtin (b := .append) (xs := #[.tmp 5, .tmp 6]) rfl ?_); at_builtin; refine Kd.R_append_rows (Kd.int .u8) (w0 := w) w.heap.size rfl (.tmp 5) (.tmp 6) 24 5 (.int .u8 0) 1 rfl Try.underlying24 info5 rfl (by decide) (by omega) (.slice none 0 0) ([] : List Int) l0 _ _ _ (fun _ => True) (fun _ => False) rfl rfl ?aO ?aR (fun _ _ h => h) (fun _ h => h.elim) ?aF ?aB ?aS ?aL ?_; (case aR => repeat (first | exact HR0.out | (with_reducible refine Kd.C_alloc ?_ _) | (with_reducible refine Kd.C_drewN ?_ _) | (with_reducible refine Kd.C_drew ?_))); (case aB => exact (by repeat (first | (with_reducible first | exact HB.out | apply below_alloc | apply pw_below_drewN | apply below_drew1) | exact HB.out))); (case aF => exact (fun _ _ => trivial)); (case aO => exact ((Kd.R_nil _ _ _ _ (fun _ => True)))); (case aS => exact (below_size (by repeat (first | (with_reducible first | exact HB.out | apply below_alloc | apply pw_below_drewN | apply below_drew1) | exact HB.out)))); (case aL => have := LMc2.out; omega); intro v102 w3 ho hb hg hat; rw [← Ny101.out] at ho; have n0_ := Aside0.mk (hb); have n1_ := Aside0.mk (ho); clear HB; have HB := n0_; have HO103 := n1_; clear n0_ n1_; clear ho hb hg hat))
    go_loopg [3, 4] k (fun kq v3 v4 w' => ∃ (x3_1 : List Int) (x4_1 : Int), v4 = .int .i64 x4_1 ∧ Aside0 (colonnadelaw13_lentw.l0 kq l0 x3_1 x4_1 = some r) ∧ Aside0 (kq ≤ k) ∧ Aside0 (Kd.R (Kd.int .u8) 5 w' w.heap.size (fun _ => True) v3 x3_1) ∧ Aside0 (Below w.heap.size w w'))
    case atStart => exact ⟨(y101), (0), (by first | rfl | (simp; done) | (simp [*]; done)), H', ⟨Nat.le_refl _⟩, ⟨by (with_reducible repeat (first | apply Kd.R_alloc | apply Kd.R_drewN | apply Kd.R_drew)); exact HO103.out⟩, ⟨by repeat (first | (with_reducible first | exact HB.out | apply below_alloc | apply pw_below_drewN | apply below_drew1) | exact HB.out)⟩⟩
    case round =>
      clear H'
      try clear c1
      try clear c2
      try clear p2
      obtain ⟨x3_1, x4_1, rfl, HA, HK1, HO_3, HB⟩ := hrel
      cases gk with
      | zero => exact absurd HA.out (by simp [colonnadelaw13_lentw.l0])
      | succ k1 =>
        have H := HA.out
        clear HA
        simp only [colonnadelaw13_lentw.l0] at H
        by_cases c4 : x4_1 < 20
        · rw [if_pos c4] at H
          have c4b0 : decide (x4_1 < 20) = true := decide_eq_true c4
          clear c4
          by_cases c5 : x3_1.length < 140737488355328
          · rw [if_pos c5] at H
            have LMc5 := Aside0.mk c5
            clear c5
            obtain ⟨y104, hy104⟩ : ∃ y_ : List Int, y_ = (x3_1 ++ [(wrap64 (201 + x4_1)) % 256]) := ⟨_, rfl⟩
            replace H : (colonnadelaw13_lentw.l0 k1 l0 y104 (wrap64 (x4_1 + 1))) = some r := by first | (rw [hy104]; with_reducible exact H) | (have H2_ := (Option.bind_some _ _).symm.trans H; rw [hy104]; with_reducible exact H2_) | (have H2_ := (Option.bind_some _ _).symm.trans H; with_reducible exact H2_) | with_reducible exact H | (rw [hy104]; exact H) | exact H
            have Ny104 := Aside0.mk hy104
            clear hy104
            have H' := Aside0.mk H
            clear H
            go_wp2_with (first | ((with_reducible refine gate_builtin (b := .append) (xs := #[.tmp 12, .tmp 16]) rfl ?_); at_builtin; refine Kd.R_append (Kd.int .u8) (w0 := w) w.heap.size rfl (.tmp 12) (.tmp 16) 24 5 (.int .u8 0) 1 rfl Try.underlying24 info5 rfl (by decide) (by omega) u3 x3_1 ((wrap64 (201 + x4_1)) % 256) [.int .u8 ((wrap64 (201 + x4_1)) % 256)] (fun _ => True) (fun _ => False) rfl rfl ?aP (fun _ hk => hk.elim) ?aF ?aO ?aB ?aS ?aL ?_; (case aP => exact rfl); (case aB => exact (by repeat (first | (with_reducible first | exact HB.out | apply below_alloc | apply pw_below_drewN | apply below_drew1) | exact HB.out))); (case aF => exact (fun _ _ => trivial)); (case aO => exact (by (with_reducible repeat (first | apply Kd.R_alloc | apply Kd.R_drewN | apply Kd.R_drew)); exact HO_3.out)); (case aS => exact (below_size (by repeat (first | (with_reducible first | exact HB.out | apply below_alloc | apply pw_below_drewN | apply below_drew1) | exact HB.out)))); (case aL => have := LMc5.out; omega); intro v105 w6 ho hb hg hat; rw [← Ny104.out] at ho; have n0_ := Aside0.mk (hb); have n1_ := Aside0.mk (ho); clear HB; clear HO_3; have HB := n0_; have HO106 := n1_; clear n0_ n1_; clear ho hb hg hat))
            go_roundg k1
            case measure => have := HK1.out; omega
            case rel => exact ⟨(y104), (wrap64 (x4_1 + 1)), (by first | rfl | (simp; done) | (simp [*]; done)), H', ⟨by have := HK1.out; omega⟩, ⟨by (with_reducible repeat (first | apply Kd.R_alloc | apply Kd.R_drewN | apply Kd.R_drew)); exact HO106.out⟩, ⟨by repeat (first | (with_reducible first | exact HB.out | apply below_alloc | apply pw_below_drewN | apply below_drew1) | exact HB.out)⟩⟩
          · rw [if_neg c5] at H
            exact absurd H (by simp)
        · rw [if_neg c4] at H
          have c4b0 : decide (x4_1 < 20) = false := decide_eq_false c4
          clear c4
          by_cases c7 : 0 ≤ (l0.length : Int)
          · rw [if_pos c7] at H
            have c7b0 := eq_true c7
            have c7b1 : decide (0 ≤ (l0.length : Int)) = true := decide_eq_true c7
            clear c7
            by_cases c8 : (l0.length : Int) ≤ (x3_1.length : Int)
            · rw [if_pos c8] at H
              have c8b0 := eq_true c8
              have c8b1 : decide ((l0.length : Int) ≤ (x3_1.length : Int)) = true := decide_eq_true c8
              have hle_ := Aside0.mk (show l0.length ≤ x3_1.length by omega)
              clear c8
              obtain ⟨y107, hy107⟩ : ∃ y_ : List Int, y_ = (x3_1.take ((l0.length : Int) : Int).toNat) := ⟨_, rfl⟩
              have H0_ := Aside0.mk (show x3_1 = r from Option.some.inj H); clear H
              have Ny107 := Aside0.mk hy107
              clear hy107
              obtain ⟨Ao9, co9, eo9⟩ := Kd.R_slice HO_3.out
              subst eo9
              have q10 : ((l0.length : Int) : Int) ≤ ((x3_1.length : Int) : Int) := of_decide_eq_true (by first | (with_reducible assumption) | assumption)
              obtain ⟨i010, hi010, _, hsz10, _⟩ := info_parts info5
              have hcut10 := cut_to (P := Try.prog) 24 5 .i64 Try.underlying24 hi010 Ao9 x3_1.length co9 (l0.length : Int) (of_decide_eq_true (by first | (with_reducible assumption) | assumption)) q10 (Kd.R_reads' HO_3.out).2.1
              have HW_ := Aside0.mk HO_3.out
              have hr10 := Kd.R_take (m := ((l0.length : Int) : Int).toNat) HO_3.out (by omega)
              have hy10 : y107.length = ((l0.length : Int) : Int).toNat := (by rw [Ny107.out, List.length_take]; omega)
              rw [← Ny107.out] at hr10
              rw [← hy10] at hr10 hcut10
              clear hy10 hi010 hsz10 HO_3
              have HO109 := Aside0.mk hr10
              clear hr10
              replace q10 := eq_true q10
              go_wp2
              go_ret
              obtain rfl := H0_.out
              exact ⟨_, by first | rfl | (simp [errW_none, errW_some] <;> rfl) | (simp [*, errW_none, errW_some] <;> rfl), ⟨hle_.out, _, _, by first | rfl | (have h_ := hle_.out; have e_ : y107.length = l0.length := (by rw [Ny107.out, List.length_take]; simp; omega); rw [e_]; rfl) | (have h_ := hle_.out; have e_ : y107.length = l0.length := (by rw [Ny107.out, List.length_take]; simp; omega); simp [e_]), by (with_reducible repeat (first | apply Kd.R_alloc | apply Kd.R_drewN | apply Kd.R_drew)); exact Kd.R_mono HW_.out (fun _ hk => trivial)⟩, by repeat (first | (with_reducible first | exact HB.out | apply below_alloc | apply pw_below_drewN | apply below_drew1) | exact HB.out)⟩
            · rw [if_neg c8] at H
              exact absurd H (by simp)
          · rw [if_neg c7] at H
            exact absurd H (by simp)
  · rw [if_neg c2] at H
    exact absurd H (by simp)

/-! ### colonnadelaw13_lentValues: function 14 -/
def colonnadelaw13_lentValuesw.f (l0 : List (S40)) : Option ((List (S40))) := if ([] : List (S40)).length + l0.length < 3518437208883 then ((some (([] : List (S40)) ++ l0 : List (S40))).bind fun y189 => ((colonnadelaw13_mark.f).bind fun bt192 => ((colonnadelaw13_mark.f).bind fun bt196 => ((colonnadelaw13_mark.f).bind fun bt200 => ((some (([(⟨bt192.1, bt192.2.1, bt192.2.2.1, bt192.2.2.2⟩ : S40), (⟨bt196.1, bt196.2.1, bt196.2.2.1, bt196.2.2.2⟩ : S40), (⟨bt200.1, bt200.2.1, bt200.2.2.1, bt200.2.2.2⟩ : S40)] : List (S40)) : List (S40))).bind fun y204 => (if y189.length + y204.length < 3518437208883 then ((some (y189 ++ y204 : List (S40))).bind fun y207 => (if 0 ≤ (l0.length : Int) then (if (l0.length : Int) ≤ (y207.length : Int) then (some y207) else (none)) else (none))) else (none))))))) else (none)
set_option maxHeartbeats 8000000 in
set_option maxRecDepth 100000 in
theorem colonnadelaw13_lentValuesw.calls (A0 : Option Addr) (c0 : Nat) (l0 : List (S40)) (r : List (S40)) (w : World) (hr0 : Kd.C k40 w A0 l0.length l0) (hc0 : l0.length ≤ c0) (h : colonnadelaw13_lentValuesw.f l0 = some r) :
    Calls Try.prog 14 #[.slice A0 l0.length c0] w fun e w' => ∃ v0_ : Value, e = .returned (v0_) ∧ (l0.length ≤ r.length ∧ ∃ A c, v0_ = .slice A l0.length c ∧ Kd.R k40 40 w' w.heap.size (fun _ => True) (.slice A r.length c) r) ∧ Below w.heap.size w w' := by
  have HR0 := Aside0.mk hr0
  have HC0 := Aside0.mk hc0
  clear hr0 hc0
  have HB := Aside0.mk (Below.refl w.heap.size w)
  have H : (if ([] : List (S40)).length + l0.length < 3518437208883 then ((some (([] : List (S40)) ++ l0 : List (S40))).bind fun y189 => ((colonnadelaw13_mark.f).bind fun bt192 => ((colonnadelaw13_mark.f).bind fun bt196 => ((colonnadelaw13_mark.f).bind fun bt200 => ((some (([(⟨bt192.1, bt192.2.1, bt192.2.2.1, bt192.2.2.2⟩ : S40), (⟨bt196.1, bt196.2.1, bt196.2.2.1, bt196.2.2.2⟩ : S40), (⟨bt200.1, bt200.2.1, bt200.2.2.1, bt200.2.2.2⟩ : S40)] : List (S40)) : List (S40))).bind fun y204 => (if y189.length + y204.length < 3518437208883 then ((some (y189 ++ y204 : List (S40))).bind fun y207 => (if 0 ≤ (l0.length : Int) then (if (l0.length : Int) ≤ (y207.length : Int) then (some y207) else (none)) else (none))) else (none))))))) else (none)) = some r := h
  clear h
  by_cases c2 : ([] : List (S40)).length + l0.length < 3518437208883
  · rw [if_pos c2] at H
    have LMc2 := Aside0.mk c2
    clear c2
    obtain ⟨y189, hy189⟩ : ∃ y_ : List (S40), y_ = (([] : List (S40)) ++ l0) := ⟨_, rfl⟩
    replace H : ((colonnadelaw13_mark.f).bind fun bt192 => ((colonnadelaw13_mark.f).bind fun bt196 => ((colonnadelaw13_mark.f).bind fun bt200 => ((some (([(⟨bt192.1, bt192.2.1, bt192.2.2.1, bt192.2.2.2⟩ : S40), (⟨bt196.1, bt196.2.1, bt196.2.2.1, bt196.2.2.2⟩ : S40), (⟨bt200.1, bt200.2.1, bt200.2.2.1, bt200.2.2.2⟩ : S40)] : List (S40)) : List (S40))).bind fun y204 => (if y189.length + y204.length < 3518437208883 then ((some (y189 ++ y204 : List (S40))).bind fun y207 => (if 0 ≤ (l0.length : Int) then (if (l0.length : Int) ≤ (y207.length : Int) then (some y207) else (none)) else (none))) else (none)))))) = some r := by first | (rw [hy189]; with_reducible exact H) | (have H2_ := (Option.bind_some _ _).symm.trans H; rw [hy189]; with_reducible exact H2_) | (have H2_ := (Option.bind_some _ _).symm.trans H; with_reducible exact H2_) | with_reducible exact H | (rw [hy189]; exact H) | exact H
    have Ny189 := Aside0.mk hy189
    clear hy189
    replace H := Option.bind_eq_some_iff.mp H
    obtain ⟨⟨t192, t193, t194, t195⟩, A30, H⟩ := H
    replace H : ((colonnadelaw13_mark.f).bind fun bt196 => ((colonnadelaw13_mark.f).bind fun bt200 => ((some (([(⟨t192, t193, t194, t195⟩ : S40), (⟨bt196.1, bt196.2.1, bt196.2.2.1, bt196.2.2.2⟩ : S40), (⟨bt200.1, bt200.2.1, bt200.2.2.1, bt200.2.2.2⟩ : S40)] : List (S40)) : List (S40))).bind fun y204 => (if y189.length + y204.length < 3518437208883 then ((some (y189 ++ y204 : List (S40))).bind fun y207 => (if 0 ≤ (l0.length : Int) then (if (l0.length : Int) ≤ (y207.length : Int) then (some y207) else (none)) else (none))) else (none))))) = some r := H
    have A3 := Aside0.mk A30
    clear A30
    replace H := Option.bind_eq_some_iff.mp H
    obtain ⟨⟨t196, t197, t198, t199⟩, A40, H⟩ := H
    replace H : ((colonnadelaw13_mark.f).bind fun bt200 => ((some (([(⟨t192, t193, t194, t195⟩ : S40), (⟨t196, t197, t198, t199⟩ : S40), (⟨bt200.1, bt200.2.1, bt200.2.2.1, bt200.2.2.2⟩ : S40)] : List (S40)) : List (S40))).bind fun y204 => (if y189.length + y204.length < 3518437208883 then ((some (y189 ++ y204 : List (S40))).bind fun y207 => (if 0 ≤ (l0.length : Int) then (if (l0.length : Int) ≤ (y207.length : Int) then (some y207) else (none)) else (none))) else (none)))) = some r := H
    have A4 := Aside0.mk A40
    clear A40
    replace H := Option.bind_eq_some_iff.mp H
    obtain ⟨⟨t200, t201, t202, t203⟩, A50, H⟩ := H
    replace H : ((some (([(⟨t192, t193, t194, t195⟩ : S40), (⟨t196, t197, t198, t199⟩ : S40), (⟨t200, t201, t202, t203⟩ : S40)] : List (S40)) : List (S40))).bind fun y204 => (if y189.length + y204.length < 3518437208883 then ((some (y189 ++ y204 : List (S40))).bind fun y207 => (if 0 ≤ (l0.length : Int) then (if (l0.length : Int) ≤ (y207.length : Int) then (some y207) else (none)) else (none))) else (none))) = some r := H
    have A5 := Aside0.mk A50
    clear A50
    obtain ⟨y204, hy204⟩ : ∃ y_ : List (S40), y_ = (([(⟨t192, t193, t194, t195⟩ : S40), (⟨t196, t197, t198, t199⟩ : S40), (⟨t200, t201, t202, t203⟩ : S40)] : List (S40))) := ⟨_, rfl⟩
    replace H : (if y189.length + y204.length < 3518437208883 then ((some (y189 ++ y204 : List (S40))).bind fun y207 => (if 0 ≤ (l0.length : Int) then (if (l0.length : Int) ≤ (y207.length : Int) then (some y207) else (none)) else (none))) else (none)) = some r := by first | (rw [hy204]; with_reducible exact H) | (have H2_ := (Option.bind_some _ _).symm.trans H; rw [hy204]; with_reducible exact H2_) | (have H2_ := (Option.bind_some _ _).symm.trans H; with_reducible exact H2_) | with_reducible exact H | (rw [hy204]; exact H) | exact H
    have Ny204 := Aside0.mk hy204
    clear hy204
    by_cases c6 : y189.length + y204.length < 3518437208883
    · rw [if_pos c6] at H
      have LMc6 := Aside0.mk c6
      clear c6
      obtain ⟨y207, hy207⟩ : ∃ y_ : List (S40), y_ = (y189 ++ y204) := ⟨_, rfl⟩
      replace H : (if 0 ≤ (l0.length : Int) then (if (l0.length : Int) ≤ (y207.length : Int) then (some y207) else (none)) else (none)) = some r := by first | (rw [hy207]; with_reducible exact H) | (have H2_ := (Option.bind_some _ _).symm.trans H; rw [hy207]; with_reducible exact H2_) | (have H2_ := (Option.bind_some _ _).symm.trans H; with_reducible exact H2_) | with_reducible exact H | (rw [hy207]; exact H) | exact H
      have Ny207 := Aside0.mk hy207
      clear hy207
      by_cases c7 : 0 ≤ (l0.length : Int)
      · rw [if_pos c7] at H
        have c7b0 := eq_true c7
        have c7b1 : decide (0 ≤ (l0.length : Int)) = true := decide_eq_true c7
        clear c7
        by_cases c8 : (l0.length : Int) ≤ (y207.length : Int)
        · rw [if_pos c8] at H
          have c8b0 := eq_true c8
          have c8b1 : decide ((l0.length : Int) ≤ (y207.length : Int)) = true := decide_eq_true c8
          have hle_ := Aside0.mk (show l0.length ≤ y207.length by omega)
          clear c8
          obtain ⟨y210, hy210⟩ : ∃ y_ : List (S40), y_ = (y207.take ((l0.length : Int) : Int).toNat) := ⟨_, rfl⟩
          have H0_ := Aside0.mk (show y207 = r from Option.some.inj H); clear H
          have Ny210 := Aside0.mk hy210
          clear hy210
          go_enter Try.func14, Try.ntmps14
          go_wp2_with (first | ((with_reducible refine gate_builtin (b := .append) (xs := #[.tmp 4, .tmp 5]) rfl ?_); at_builtin; refine Kd.R_append_rows k40 (w0 := w) w.heap.size rfl (.tmp 4) (.tmp 5) 33 40 (.agg #[(.int .i64 0), (.int .i64 0), (.float .f64 0), (.string ⟨#[]⟩)]) 40 rfl Try.underlying33 info40 rfl (by decide) (by omega) (.slice none 0 0) ([] : List (S40)) l0 _ _ _ (fun _ => True) (fun _ => False) rfl rfl ?aO ?aR (fun _ _ h => h) (fun _ h => h.elim) ?aF ?aB ?aS ?aL ?_; (case aR => repeat (first | exact HR0.out | (with_reducible refine Kd.C_alloc ?_ _) | (with_reducible refine Kd.C_drewN ?_ _) | (with_reducible refine Kd.C_drew ?_))); (case aB => exact (by repeat (first | (with_reducible first | exact HB.out | apply below_alloc | apply pw_below_drewN | apply below_drew1) | exact HB.out))); (case aF => exact (fun _ _ => trivial)); (case aO => exact ((Kd.R_nil _ _ _ _ (fun _ => True)))); (case aS => exact (below_size (by repeat (first | (with_reducible first | exact HB.out | apply below_alloc | apply pw_below_drewN | apply below_drew1) | exact HB.out)))); (case aL => have := LMc2.out; omega); intro v190 w9 ho hb hg hat; rw [← Ny189.out] at ho; have n0_ := Aside0.mk (hb); have n1_ := Aside0.mk (ho); clear HB; have HB := n0_; have HO191 := n1_; clear n0_ n1_; clear ho hb hg hat) | ((with_reducible refine gate_callee (f := 28) rfl ?_); refine goesL_ (some 8) rfl rfl Try.func28 (by kernel_rfl) rfl #[] rfl (by (try simp only [List.map_toArray, List.map_cons, List.map_nil]); first | done | rfl | (simp only [List.length_drop, List.length_take]; rfl)) ?_; (with_reducible refine (colonnadelaw13_mark.calls  t192 t193 t194 t195 _ A3.out).mono ?_); rintro e w10 ⟨rfl, hb⟩; refine ⟨_, rfl, ?_⟩; have n0_ := Aside0.mk (Kd.R_below (by (with_reducible repeat (first | apply Kd.R_alloc | apply Kd.R_drewN | apply Kd.R_drew)); exact HO191.out) hb); have n1_ := Aside0.mk (below_step (by repeat (first | (with_reducible first | exact HB.out | apply below_alloc | apply pw_below_drewN | apply below_drew1) | exact HB.out)) hb); clear HO191; clear HB; have HO191 := n0_; have HB := n1_; clear n0_ n1_; (try clear hb); (try clear hb2); (try clear hk); (try clear hi)) | ((with_reducible refine gate_callee (f := 28) rfl ?_); refine goesL_ (some 9) rfl rfl Try.func28 (by kernel_rfl) rfl #[] rfl (by (try simp only [List.map_toArray, List.map_cons, List.map_nil]); first | done | rfl | (simp only [List.length_drop, List.length_take]; rfl)) ?_; (with_reducible refine (colonnadelaw13_mark.calls  t196 t197 t198 t199 _ A4.out).mono ?_); rintro e w11 ⟨rfl, hb⟩; refine ⟨_, rfl, ?_⟩; have n0_ := Aside0.mk (Kd.R_below (by (with_reducible repeat (first | apply Kd.R_alloc | apply Kd.R_drewN | apply Kd.R_drew)); exact HO191.out) hb); have n1_ := Aside0.mk (below_step (by repeat (first | (with_reducible first | exact HB.out | apply below_alloc | apply pw_below_drewN | apply below_drew1) | exact HB.out)) hb); clear HO191; clear HB; have HO191 := n0_; have HB := n1_; clear n0_ n1_; (try clear hb); (try clear hb2); (try clear hk); (try clear hi)) | ((with_reducible refine gate_callee (f := 28) rfl ?_); refine goesL_ (some 10) rfl rfl Try.func28 (by kernel_rfl) rfl #[] rfl (by (try simp only [List.map_toArray, List.map_cons, List.map_nil]); first | done | rfl | (simp only [List.length_drop, List.length_take]; rfl)) ?_; (with_reducible refine (colonnadelaw13_mark.calls  t200 t201 t202 t203 _ A5.out).mono ?_); rintro e w12 ⟨rfl, hb⟩; refine ⟨_, rfl, ?_⟩; have n0_ := Aside0.mk (Kd.R_below (by (with_reducible repeat (first | apply Kd.R_alloc | apply Kd.R_drewN | apply Kd.R_drew)); exact HO191.out) hb); have n1_ := Aside0.mk (below_step (by repeat (first | (with_reducible first | exact HB.out | apply below_alloc | apply pw_below_drewN | apply below_drew1) | exact HB.out)) hb); clear HO191; clear HB; have HO191 := n0_; have HB := n1_; clear n0_ n1_; (try clear hb); (try clear hb2); (try clear hk); (try clear hi)) | ((with_reducible refine gate_dst (N := 11) rfl ?_); refine Kd.R_lit k40 _ 40 ?hg (N := 11) ?hd (xs := ([(⟨t192, t193, t194, t195⟩ : S40), (⟨t196, t197, t198, t199⟩ : S40), (⟨t200, t201, t202, t203⟩ : S40)] : List (S40))) (inner := [.int .i64 t192, .int .i64 t193, .float .f64 t194, .string t195, .int .i64 t196, .int .i64 t197, .float .f64 t198, .string t199, .int .i64 t200, .int .i64 t201, .float .f64 t202, .string t203]) (ok := fun _ => True) (okp := fun _ => True) ?hr ?hp (fun _ hk => hk) trivial (Below.refl _ _) (Nat.le_refl _) (by simp) ?_; (case hd => rfl); (case hg => rfl); (case hr => first | (go_simp; done) | (go_simp; rfl)); (case hp => exact (Reps.c4 (show Kd.M k40 _ _ _ (⟨t192, t193, t194, t195⟩ : S40) [.int .i64 t192, .int .i64 t193, .float .f64 t194, .string t195] from (k40_mkM _ _ _ (⟨t192, t193, t194, t195⟩ : S40) )) (Reps.c4 (show Kd.M k40 _ _ _ (⟨t196, t197, t198, t199⟩ : S40) [.int .i64 t196, .int .i64 t197, .float .f64 t198, .string t199] from (k40_mkM _ _ _ (⟨t196, t197, t198, t199⟩ : S40) )) (Reps.c4 (show Kd.M k40 _ _ _ (⟨t200, t201, t202, t203⟩ : S40) [.int .i64 t200, .int .i64 t201, .float .f64 t202, .string t203] from (k40_mkM _ _ _ (⟨t200, t201, t202, t203⟩ : S40) )) (Reps.none _ _))))); intro v205 w13 ho14 hb hg_ hnew_; clear hg_ hnew_; (first | rw [← Ny204.out] at ho14 | (simp only [Int.reduceToNat] at ho14; rw [← Ny204.out] at ho14)); have n0_ := Aside0.mk (Kd.R_elder' (by (with_reducible repeat (first | apply Kd.R_alloc | apply Kd.R_drewN | apply Kd.R_drew)); exact HO191.out) (Kd.R_base ho14) hb); have n1_ := Aside0.mk (Kd.R_lower (Kd.R_new' ho14 (Kd.R_lt (by (with_reducible repeat (first | apply Kd.R_alloc | apply Kd.R_drewN | apply Kd.R_drew)); exact HO191.out))) (below_size (by repeat (first | (with_reducible first | exact HB.out | apply below_alloc | apply pw_below_drewN | apply below_drew1) | exact HB.out)))); have n2_ := Aside0.mk (below_step (by repeat (first | (with_reducible first | exact HB.out | apply below_alloc | apply pw_below_drewN | apply below_drew1) | exact HB.out)) hb); clear HO191; clear HB; have HO191 := n0_; have HO206 := n1_; have HB := n2_; clear n0_ n1_ n2_; clear hb ho14; obtain ⟨Ao16, co16, eo16⟩ := Kd.R_slice HO206.out; subst eo16) | ((with_reducible refine gate_builtin (b := .append) (xs := #[.tmp 7, .tmp 11]) rfl ?_); at_builtin; refine Kd.R_append_rows k40 (w0 := w) w.heap.size rfl (.tmp 7) (.tmp 11) 33 40 (.agg #[(.int .i64 0), (.int .i64 0), (.float .f64 0), (.string ⟨#[]⟩)]) 40 rfl Try.underlying33 info40 rfl (by decide) (by omega) v190 y189 y204 _ _ _ (fun k_ => some k_ ≠ (.slice Ao16 y204.length co16 : Value).ownBlock) (fun _ => False) rfl rfl ?aO ?aR (fun _ _ h => h) (fun _ h => h.elim) ?aF ?aB ?aS ?aL ?_; (case aR => repeat (first | exact (Kd.R_reads' HO206.out).2.2 | (with_reducible refine Kd.C_alloc ?_ _) | (with_reducible refine Kd.C_drewN ?_ _) | (with_reducible refine Kd.C_drew ?_))); (case aB => exact (by repeat (first | (with_reducible first | exact HB.out | apply below_alloc | apply pw_below_drewN | apply below_drew1) | exact HB.out))); (case aF => exact (fun k_ hk => Kd.fresh' (Kd.R_lt (by (with_reducible repeat (first | apply Kd.R_alloc | apply Kd.R_drewN | apply Kd.R_drew)); exact HO206.out)) k_ hk)); (case aO => exact (by (with_reducible repeat (first | apply Kd.R_alloc | apply Kd.R_drewN | apply Kd.R_drew)); exact Kd.R_mono HO191.out (fun _ hk => hk.2))); (case aS => exact (below_size (by repeat (first | (with_reducible first | exact HB.out | apply below_alloc | apply pw_below_drewN | apply below_drew1) | exact HB.out)))); (case aL => have := LMc6.out; omega); intro v208 w15 ho hb hg hat; rw [← Ny207.out] at ho; have n0_ := Aside0.mk (Kd.R_after (ok := (fun _ => True)) (by (with_reducible repeat (first | apply Kd.R_alloc | apply Kd.R_drewN | apply Kd.R_drew)); exact HO206.out) hg hat); have n1_ := Aside0.mk (hb); have n2_ := Aside0.mk (ho); clear HO206; clear HB; clear HO191; have HO206 := n0_; have HB := n1_; have HO209 := n2_; clear n0_ n1_ n2_; clear ho hb hg hat; obtain ⟨Ao17, co17, eo17⟩ := Kd.R_slice HO209.out; subst eo17; have q18 : ((l0.length : Int) : Int) ≤ ((y207.length : Int) : Int) := of_decide_eq_true (by first | (with_reducible assumption) | assumption); obtain ⟨i018, hi018, _, hsz18, _⟩ := info_parts info40; have hcut18 := cut_to (P := Try.prog) 33 40 .i64 Try.underlying33 hi018 Ao17 y207.length co17 (l0.length : Int) (of_decide_eq_true (by first | (with_reducible assumption) | assumption)) q18 (Kd.R_reads' HO209.out).2.1; have HW_ := Aside0.mk HO209.out; have hr18 := Kd.R_take (m := ((l0.length : Int) : Int).toNat) HO209.out (by omega); have hy18 : y210.length = ((l0.length : Int) : Int).toNat := (by rw [Ny210.out, List.length_take]; omega); rw [← Ny210.out] at hr18; rw [← hy18] at hr18 hcut18; clear hy18 hi018 hsz18 HO209; have HO212 := Aside0.mk hr18; clear hr18; replace q18 := eq_true q18))
          go_ret
          obtain rfl := H0_.out
          exact ⟨_, by first | rfl | (simp [errW_none, errW_some] <;> rfl) | (simp [*, errW_none, errW_some] <;> rfl), ⟨hle_.out, _, _, by first | rfl | (have h_ := hle_.out; have e_ : y210.length = l0.length := (by rw [Ny210.out, List.length_take]; simp; omega); rw [e_]; rfl) | (have h_ := hle_.out; have e_ : y210.length = l0.length := (by rw [Ny210.out, List.length_take]; simp; omega); simp [e_]), by (with_reducible repeat (first | apply Kd.R_alloc | apply Kd.R_drewN | apply Kd.R_drew)); exact Kd.R_mono HW_.out (fun _ hk => trivial)⟩, by repeat (first | (with_reducible first | exact HB.out | apply below_alloc | apply pw_below_drewN | apply below_drew1) | exact HB.out)⟩
        · rw [if_neg c8] at H
          exact absurd H (by simp)
      · rw [if_neg c7] at H
        exact absurd H (by simp)
    · rw [if_neg c6] at H
      exact absurd H (by simp)
  · rw [if_neg c2] at H
    exact absurd H (by simp)

/-! ### told with the tail -/
open Go.Proofs.Ytgmeefgihidomaa.L in
theorem lentw_l0 (p : List Int) : ∀ (d j : Nat) (x : List Int), j + d = 20 → x.length + d ≤ 140737488355328 → p.length ≤ x.length → Evn (fun k => colonnadelaw13_lentw.l0 k p x (j : Int)) (x ++ (List.range' j d).map fun i : Nat => ((201 + i : Nat) : Int)) := by
  intro d
  induction d with
  | zero =>
    intro j x e hx hp
    refine Evn.succ (fun _ => rfl) ?_
    simp only [colonnadelaw13_lentw.l0]
    refine Evn.neg (by omega) (Evn.pos (by omega) (Evn.pos (by omega) ?_))
    simp only [List.range'_zero, List.map_nil, List.append_nil]
    exact Evn.now _
  | succ d ih =>
    intro j x e hx hp
    refine Evn.succ (fun _ => rfl) ?_
    simp only [colonnadelaw13_lentw.l0]
    have e1 : wrap64 ((j : Int) + 1) = ((j + 1 : Nat) : Int) := by rw [wrap64_in (by omega) (by omega)]; omega
    have e2 : wrap64 (201 + (j : Int)) % 256 = ((201 + j : Nat) : Int) := by rw [wrap64_in (by omega) (by omega)]; omega
    rw [e1, e2]
    refine Evn.pos (by omega) (Evn.pos (by omega) ?_)
    have := ih (j + 1) (x ++ [((201 + j : Nat) : Int)]) (by omega) (by simp; omega) (by simp; omega)
    rw [List.range'_succ, List.map_cons]
    rw [List.append_assoc] at this
    exact this
def colonnadelaw13_lent.f (l0 : List Int) : Option (List Int) := if l0.length + 20 ≤ 140737488355328 then some l0 else none
open Go.Proofs.Ytgmeefgihidomaa.L in
theorem colonnadelaw13_lent.calls (A0 : Option Addr) (c0 : Nat) (l0 : List Int) (r : List Int) (w : World) (hr0 : Kd.C (Kd.int .u8) w A0 l0.length l0) (hc0 : l0.length ≤ c0) (h : colonnadelaw13_lent.f l0 = some r) :
    Calls Try.prog 10 #[.slice A0 l0.length c0] w fun e w' => ∃ v0_ : Value, e = .returned (v0_) ∧ Kd.Tb (Kd.int .u8) 5 w' w.heap.size (fun _ => True) v0_ r ∧ Below w.heap.size w w' := by
  unfold colonnadelaw13_lent.f at h
  split at h
  · obtain rfl := Option.some.inj h
    obtain ⟨k, hk⟩ := (lentw_l0 l0 20 0 l0 rfl (by omega) (Nat.le_refl _)).ex
    have hf : colonnadelaw13_lentw.f k l0 = some (l0 ++ Kd.Tb_tl) := by
      unfold colonnadelaw13_lentw.f
      rw [if_pos (by simp; omega)]
      exact hk
    refine (colonnadelaw13_lentw.calls k A0 c0 l0 _ w hr0 hc0 hf).mono ?_
    rintro e w' ⟨v, he, ⟨_, A, c, hv, hR⟩, hb⟩
    refine ⟨v, he, ⟨A, c, hv, ?_⟩, hb⟩
    rw [List.length_append] at hR
    exact hR
  · exact absurd h (by simp)
def colonnadelaw13_lentValues.f (l0 : List S40) : Option (List S40) := if l0.length + 3 < 3518437208883 then some l0 else none
theorem colonnadelaw13_lentValues.calls (A0 : Option Addr) (c0 : Nat) (l0 : List S40) (r : List S40) (w : World) (hr0 : Kd.C k40 w A0 l0.length l0) (hc0 : l0.length ≤ c0) (h : colonnadelaw13_lentValues.f l0 = some r) :
    Calls Try.prog 14 #[.slice A0 l0.length c0] w fun e w' => ∃ v0_ : Value, e = .returned (v0_) ∧ Kd.Tv k40 40 w' w.heap.size (fun _ => True) v0_ r ∧ Below w.heap.size w w' := by
  unfold colonnadelaw13_lentValues.f at h
  split at h
  · obtain rfl := Option.some.inj h
    have hf : colonnadelaw13_lentValuesw.f l0 = some (l0 ++ Kd.Tv_tl) := by
      unfold colonnadelaw13_lentValuesw.f colonnadelaw13_mark.f
      rw [if_pos (by simp; omega)]
      simp only [Option.bind_some]
      rw [if_pos (by simp; omega), if_pos (by omega), if_pos (by simp; omega)]
      rfl
    refine (colonnadelaw13_lentValuesw.calls A0 c0 l0 _ w hr0 hc0 hf).mono ?_
    rintro e w' ⟨v, he, ⟨_, A, c, hv, hR⟩, hb⟩
    refine ⟨v, he, ⟨A, c, hv, ?_⟩, hb⟩
    rw [List.length_append] at hR
    exact hR
  · exact absurd h (by simp)
end Go.Proofs.Ytgmeefgihidomaa.Pa
