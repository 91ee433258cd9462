/- Lists that were handed in with marks behind them, looked at again: kept, keptValues. The walks' text is the print's, turned by mkkept.py. -/
import Derived.Test.YtgmeefgihidomaaPa0
import Derived.Test.YtgmeefgihidomaaL
import Derived.Test.YtgmeefgihidomaaT
import Derived.Test.YtgmeefgihidomaaPa2
import Derived.Test.YtgmeefgihidomaaPa15
import Derived.Test.YtgmeefgihidomaaPa1
namespace Go.Proofs.Ytgmeefgihidomaa.Pa
open Go.RowKit Go.Proofs.YtgmeefgihidomaaW.PrintWords Go.Proofs.YtgmeefgihidomaaW.PrintLast Go.Proofs.YtgmeefgihidomaaW.PrintMore
attribute [local go_sem] max2_int min2_int max_two min_two max_three min_three max_four min_four
attribute [local go_sem] run_store_float cmp_feq cmp_fne cmp_flt cmp_fle cmp_fgt cmp_fge un_fneg equalIn_feq ext_bits ext_frombits
attribute [local go_sem high] eqA40
set_option linter.unusedVariables false
set_option linter.unusedSimpArgs false

/-! ### colonnadelaw13_kept: function 13 -/
def colonnadelaw13_keptw.l0 : Nat → List Int → List Int → Int → Option (Bool)
  | 0, _, _, _ => none
  | k + 1, x1, x5, x6 => if x6 < 20 then (if 0 ≤ (wrap64 ((x1.length : Int) + x6)) then (if (wrap64 ((x1.length : Int) + x6)) < (x5.length : Int) then (if (rd x5 (wrap64 ((x1.length : Int) + x6))) = ((wrap64 (201 + x6)) % 256) then (colonnadelaw13_keptw.l0 k x1 x5 (wrap64 (x6 + 1))) else (some false)) else (none)) else (none)) else (some true)
def colonnadelaw13_keptw.f (k : Nat) (lt : List Int) (l0 : List Int) (l1 : List Int) : Option (Bool) := if (strOfNums l0).toList = (strOfNums l1).toList then (if 0 ≤ (wrap64 ((l0.length : Int) + 20)) then (if (wrap64 ((l0.length : Int) + 20)) ≤ (lt.length : Int) then (colonnadelaw13_keptw.l0 k l1 (lt.take ((wrap64 ((l0.length : Int) + 20)) : Int).toNat) 0) else (none)) else (none)) else (some false)
theorem colonnadelaw13_keptw.mono_l : ∀ k, (∀ y0 y1 y2, LeO (colonnadelaw13_keptw.l0 k y0 y1 y2) (colonnadelaw13_keptw.l0 (k + 1) y0 y1 y2))
  | 0 => fun _ _ _ r h => by simp [colonnadelaw13_keptw.l0] at h
  | k + 1 => by
    have ih0 := colonnadelaw13_keptw.mono_l k
    · intro y0 y1 y2
      unfold colonnadelaw13_keptw.l0
      repeat' first
      | (with_reducible exact ih0 _ _ _)
      | (with_reducible exact LeO.refl _)
      | (with_reducible exact LeO.none _)
      | (with_reducible refine LeO.ite ?_ ?_)
      | (with_reducible refine LeO.bind ?_ (fun _ => ?_))
      | exact ih0 _ _ _
      | exact LeO.none _
      | refine LeO.ite ?_ ?_
      | refine LeO.bind ?_ (fun _ => ?_)
theorem colonnadelaw13_keptw.mono : ∀ at0 a0 a1 k, LeO (colonnadelaw13_keptw.f k at0 a0 a1) (colonnadelaw13_keptw.f (k + 1) at0 a0 a1) := by
  intro at0 a0 a1 k
  have ih0 := colonnadelaw13_keptw.mono_l k
  unfold colonnadelaw13_keptw.f
  repeat' first
      | (with_reducible exact ih0 _ _ _)
      | (with_reducible exact LeO.refl _)
      | (with_reducible exact LeO.none _)
      | (with_reducible refine LeO.ite ?_ ?_)
      | (with_reducible refine LeO.bind ?_ (fun _ => ?_))
      | exact ih0 _ _ _
      | exact LeO.none _
      | refine LeO.ite ?_ ?_
      | refine LeO.bind ?_ (fun _ => ?_)
set_option maxHeartbeats 8000000 in
set_option maxRecDepth 100000 in
theorem colonnadelaw13_keptw.calls (k : Nat) (lt : List Int) (A0 : Option Addr) (c0 : Nat) (l0 : List Int) (A1 : Option Addr) (c1 : Nat) (l1 : List Int) (r : Bool) (w : World) (hr0 : Kd.C (Kd.int .u8) w A0 l0.length l0) (hc0 : l0.length ≤ c0) (hrt : Kd.C (Kd.int .u8) w A0 lt.length lt) (hct : lt.length ≤ c0) (hr1 : Kd.C (Kd.int .u8) w A1 l1.length l1) (hc1 : l1.length ≤ c1) (h : colonnadelaw13_keptw.f k lt l0 l1 = some r) :
    Calls Try.prog 13 #[.slice A0 l0.length c0, .slice A1 l1.length c1] w fun e w' => e = .returned (.bool r) ∧ Drawn0 w w' := by
  have HR0 := Aside0.mk hr0
  have HC0 := Aside0.mk hc0
  clear hr0 hc0
  have HRT := Aside0.mk hrt
  have HCT := Aside0.mk hct
  clear hrt hct
  have HR1 := Aside0.mk hr1
  have HC1 := Aside0.mk hc1
  clear hr1 hc1
  have H : (if (strOfNums l0).toList = (strOfNums l1).toList then (if 0 ≤ (wrap64 ((l0.length : Int) + 20)) then (if (wrap64 ((l0.length : Int) + 20)) ≤ (lt.length : Int) then (colonnadelaw13_keptw.l0 k l1 (lt.take ((wrap64 ((l0.length : Int) + 20)) : Int).toNat) 0) else (none)) else (none)) else (some false)) = some r := h
  clear h
  by_cases c3 : (strOfNums l0).toList = (strOfNums l1).toList
  · rw [if_pos c3] at H
    have c3b0 : ((strOfNums l0).toList == (strOfNums l1).toList) = true := beq_iff_eq.mpr c3
    have c3b1 : ((strOfNums l0).toList != (strOfNums l1).toList) = false := bne_eq_false_iff_eq.mpr c3
    clear c3
    obtain ⟨ji4, hji4⟩ : ∃ j_ : Int, (wrap64 ((l0.length : Int) + 20)) = j_ := ⟨_, rfl⟩
    replace H : (if 0 ≤ (ji4) then (if (ji4) ≤ (lt.length : Int) then (colonnadelaw13_keptw.l0 k l1 (lt.take ((ji4) : Int).toNat) 0) else (none)) else (none)) = some r := by first | (rw [hji4] at H; exact H) | (simp only [hji4] at H ⊢; exact H)
    have hji4w : (IntKind.i64.wrap ((l0.length : Int) + 20)) = ji4 := (i64_w _).trans hji4
    by_cases c5 : 0 ≤ (ji4)
    · rw [if_pos c5] at H
      have c5b0 := eq_true c5
      have c5b1 : decide (0 ≤ (ji4)) = true := decide_eq_true c5
      clear c5
      by_cases c6 : (ji4) ≤ (lt.length : Int)
      · rw [if_pos c6] at H
        have c6b0 := eq_true c6
        have c6b1 : decide ((ji4) ≤ (lt.length : Int)) = true := decide_eq_true c6
        clear c6
        have H' := Aside0.mk H
        clear H
        have hcv7 := Kd.C_string (P := Try.prog) (A := A0) (c := c0) Try.underlying24 Try.underlying5 Try.underlying9 HR0.out
        have hcv8 := Kd.C_string (P := Try.prog) (A := A1) (c := c1) Try.underlying24 Try.underlying5 Try.underlying9 HR1.out
        obtain ⟨i09, hi09, _, hsz9, _⟩ := info_parts info5
        obtain ⟨_, hA9, hC9⟩ := print_take_of (P := Try.prog) (Value.int .u8) 0 24 5 .i64 Try.underlying24 hi09 hsz9 A0 c0 lt (ji4) (of_decide_eq_true (by first | (with_reducible assumption) | assumption)) (of_decide_eq_true (by first | (with_reducible assumption) | assumption)) HCT.out
        have hcut9 := cut_capped (P := Try.prog) 24 5 .i64 Try.underlying24 hi09 A0 l0.length (lt.take ((ji4) : Int).toNat).length c0 (ji4) (of_decide_eq_true (by first | (with_reducible assumption) | assumption)) (by have hm_ : ((ji4) : Int) ≤ (lt.length : Int) := (of_decide_eq_true (by first | (with_reducible assumption) | assumption)); have h0_ : 0 ≤ ((ji4) : Int) := (of_decide_eq_true (by first | (with_reducible assumption) | assumption)); rw [List.length_take]; omega) hC9
        have HR131 := Aside0.mk (Kd.C_of_reads (h1 := fun _ => rfl) (hA9 _ (Kd.reads_of_C HRT.out)))
        have HC131 := Aside0.mk hC9
        clear hA9 hC9 hi09 hsz9
        go_enter Try.func13, Try.ntmps13
        go_wp2
        go_loopg [6] k (fun kq v6 w' => ∃ (x6_1 : Int), v6 = .int .i64 x6_1 ∧ Aside0 (colonnadelaw13_keptw.l0 kq l1 (lt.take ((ji4) : Int).toNat) x6_1 = some r) ∧ Aside0 (kq ≤ k) ∧ Drawn0 w w')
        case atStart => exact ⟨(0), (by first | rfl | (simp; done) | (simp [*]; done)), H', ⟨Nat.le_refl _⟩, by repeat (first | exact Drawn0.refl _ | apply Drawn0.step)⟩
        case round =>
          clear H'
          try clear c1
          try clear p2
          try clear c3
          try clear c3b0
          try clear c3b1
          try clear c5
          try clear c5b0
          try clear c5b1
          try clear c6
          try clear c6b0
          try clear c6b1
          try clear p6
          try clear hcv7
          try clear hcv8
          obtain ⟨x6_1, rfl, HA, HK1, ⟨m1, rfl⟩⟩ := hrel
          cases gk with
          | zero => exact absurd HA.out (by simp [colonnadelaw13_keptw.l0])
          | succ k1 =>
            have H := HA.out
            clear HA
            simp only [colonnadelaw13_keptw.l0] at H
            by_cases c10 : x6_1 < 20
            · rw [if_pos c10] at H
              have c10b0 : decide (x6_1 < 20) = true := decide_eq_true c10
              clear c10
              obtain ⟨ji11, hji11⟩ : ∃ j_ : Int, (wrap64 ((l1.length : Int) + x6_1)) = j_ := ⟨_, rfl⟩
              replace H : (if 0 ≤ (ji11) then (if (ji11) < ((lt.take ((ji4) : Int).toNat).length : Int) then (if (rd (lt.take ((ji4) : Int).toNat) (ji11)) = ((wrap64 (201 + x6_1)) % 256) then (colonnadelaw13_keptw.l0 k1 l1 (lt.take ((ji4) : Int).toNat) (wrap64 (x6_1 + 1))) else (some false)) else (none)) else (none)) = some r := by first | (rw [hji11] at H; exact H) | (simp only [hji11] at H ⊢; exact H)
              have hji11w : (IntKind.i64.wrap ((l1.length : Int) + x6_1)) = ji11 := (i64_w _).trans hji11
              by_cases c12 : 0 ≤ (ji11)
              · rw [if_pos c12] at H
                have c12b0 : decide (0 ≤ (ji11)) = true := decide_eq_true c12
                clear c12
                by_cases c13 : (ji11) < ((lt.take ((ji4) : Int).toNat).length : Int)
                · rw [if_pos c13] at H
                  have c13b0 : decide ((ji11) < ((lt.take ((ji4) : Int).toNat).length : Int)) = true := decide_eq_true c13
                  clear c13
                  by_cases c14 : (rd (lt.take ((ji4) : Int).toNat) (ji11)) = ((wrap64 (201 + x6_1)) % 256)
                  · rw [if_pos c14] at H
                    have c14b0 : ((rd (lt.take ((ji4) : Int).toNat) (ji11)) == ((wrap64 (201 + x6_1)) % 256)) = true := beq_iff_eq.mpr c14
                    have c14b1 : ((rd (lt.take ((ji4) : Int).toNat) (ji11)) != ((wrap64 (201 + x6_1)) % 256)) = false := bne_eq_false_iff_eq.mpr c14
                    clear c14
                    have H' := Aside0.mk H
                    clear H
                    have p132 : 0 ≤ ((ji11) : Int) := of_decide_eq_true (by first | (with_reducible assumption) | assumption)
                    have q132 : (ji11) < ((lt.take ((ji4) : Int).toNat).length : Int) := of_decide_eq_true (by first | (with_reducible assumption) | assumption)
                    have qm132 : ((ji11) < max (ji4) 0) = True := eq_true (by have h_ := q132; rw [List.length_take] at h_; omega)
                    obtain ⟨ad132, e132, hx132_0⟩ := Kd.at_int HR131.out (ji11) p132 q132
                    cases e132
                    replace p132 := eq_true p132
                    replace q132 := eq_true q132
                    go_wp2
                    go_roundg k1
                    case measure => have := HK1.out; omega
                    case rel => exact ⟨(wrap64 (x6_1 + 1)), (by first | rfl | (simp; done) | (simp [*]; done)), H', ⟨by have := HK1.out; omega⟩, by repeat (first | exact Drawn0.refl _ | apply Drawn0.step)⟩
                  · rw [if_neg c14] at H
                    have c14b0 : ((rd (lt.take ((ji4) : Int).toNat) (ji11)) == ((wrap64 (201 + x6_1)) % 256)) = false := beq_eq_false_iff_ne.mpr c14
                    have c14b1 : ((rd (lt.take ((ji4) : Int).toNat) (ji11)) != ((wrap64 (201 + x6_1)) % 256)) = true := bne_iff_ne.mpr c14
                    obtain rfl := Option.some.inj H
                    have p132 : 0 ≤ ((ji11) : Int) := of_decide_eq_true (by first | (with_reducible assumption) | assumption)
                    have q132 : (ji11) < ((lt.take ((ji4) : Int).toNat).length : Int) := of_decide_eq_true (by first | (with_reducible assumption) | assumption)
                    have qm132 : ((ji11) < max (ji4) 0) = True := eq_true (by have h_ := q132; rw [List.length_take] at h_; omega)
                    obtain ⟨ad132, e132, hx132_0⟩ := Kd.at_int HR131.out (ji11) p132 q132
                    cases e132
                    replace p132 := eq_true p132
                    replace q132 := eq_true q132
                    go_wp2
                    go_ret
                    exact ⟨by first | rfl | (simp; done) | (simp only [← hji4, ← hji11] <;> (first | rfl | simp)) | (simp [*]; done), by repeat (first | exact Drawn0.refl _ | apply Drawn0.step)⟩
                · rw [if_neg c13] at H
                  exact absurd H (by simp)
              · rw [if_neg c12] at H
                exact absurd H (by simp)
            · rw [if_neg c10] at H
              have c10b0 : decide (x6_1 < 20) = false := decide_eq_false c10
              clear c10
              obtain rfl := Option.some.inj H
              go_wp2
              go_ret
              exact ⟨by first | rfl | (simp; done) | (simp only [← hji4] <;> (first | rfl | simp)) | (simp [*]; done), by repeat (first | exact Drawn0.refl _ | apply Drawn0.step)⟩
      · rw [if_neg c6] at H
        exact absurd H (by simp)
    · rw [if_neg c5] at H
      exact absurd H (by simp)
  · rw [if_neg c3] at H
    have c3b0 : ((strOfNums l0).toList == (strOfNums l1).toList) = false := beq_eq_false_iff_ne.mpr c3
    have c3b1 : ((strOfNums l0).toList != (strOfNums l1).toList) = true := bne_iff_ne.mpr c3
    obtain rfl := Option.some.inj H
    have hcv15 := Kd.C_string (P := Try.prog) (A := A0) (c := c0) Try.underlying24 Try.underlying5 Try.underlying9 HR0.out
    have hcv16 := Kd.C_string (P := Try.prog) (A := A1) (c := c1) Try.underlying24 Try.underlying5 Try.underlying9 HR1.out
    go_enter Try.func13, Try.ntmps13
    go_wp2
    go_ret
    exact ⟨by first | rfl | (simp; done) | (simp [*]; done), by repeat (first | exact Drawn0.refl _ | apply Drawn0.step)⟩

/-! ### told by the tail -/
open Go.Proofs.Ytgmeefgihidomaa.L in
theorem keptw_l0 (q p : List Int) (hl : q.length = p.length) (hb : q.length < 140737488355328) : ∀ (d j : Nat), j + d = 20 → Evn (fun k => colonnadelaw13_keptw.l0 k q (p ++ Kd.Tb_tl) (j : Int)) true := by
  have ht : Kd.Tb_tl.length = 20 := rfl
  intro d
  induction d with
  | zero =>
    intro j e
    refine Evn.succ (fun _ => rfl) ?_
    simp only [colonnadelaw13_keptw.l0]
    exact Evn.neg (by omega) (Evn.now _)
  | succ d ih =>
    intro j e
    refine Evn.succ (fun _ => rfl) ?_
    simp only [colonnadelaw13_keptw.l0]
    have e1 : wrap64 ((j : Int) + 1) = ((j + 1 : Nat) : Int) := by rw [wrap64_in (by omega) (by omega)]; omega
    have e2 : wrap64 (201 + (j : Int)) % 256 = ((201 + j : Nat) : Int) := by rw [wrap64_in (by omega) (by omega)]; omega
    have e3 : wrap64 ((q.length : Int) + (j : Int)) = ((p.length + j : Nat) : Int) := by rw [wrap64_in (by omega) (by omega)]; omega
    have e4 : rd (p ++ Kd.Tb_tl) ((p.length + j : Nat) : Int) = ((201 + j : Nat) : Int) := by
      unfold rd
      rw [Int.toNat_natCast, List.getD_eq_getElem?_getD, List.getElem?_append_right (by omega), show p.length + j - p.length = j by omega]
      simp only [Kd.Tb_tl, List.getElem?_map, List.getElem?_range (show j < 20 by omega)]
      rfl
    rw [e1, e2, e3, e4]
    refine Evn.pos (by omega) (Evn.pos (by omega) (Evn.pos (by simp only [List.length_append]; omega) (Evn.pos (by trivial) ?_)))
    exact ih (j + 1) (by omega)
def colonnadelaw13_kept.f (l0 l1 : List Int) : Option Bool := if l0.length < 140737488355328 then some ((strOfNums l0).toList == (strOfNums l1).toList) else none
open Go.Proofs.Ytgmeefgihidomaa.L in
theorem colonnadelaw13_kept.calls (A0 : Option Addr) (c0 : Nat) (l0 : List Int) (A1 : Option Addr) (c1 : Nat) (l1 : List Int) (r : Bool) (w : World) (hr0 : Kd.C (Kd.int .u8) w A0 (l0.length + Kd.Tb_tl.length) (l0 ++ Kd.Tb_tl)) (hc0 : l0.length + Kd.Tb_tl.length ≤ c0) (hr1 : Kd.C (Kd.int .u8) w A1 l1.length l1) (hc1 : l1.length ≤ c1) (h : colonnadelaw13_kept.f l0 l1 = some r) :
    Calls Try.prog 13 #[.slice A0 l0.length c0, .slice A1 l1.length c1] w fun e w' => e = .returned (.bool r) ∧ Drawn0 w w' := by
  have ht : Kd.Tb_tl.length = 20 := rfl
  unfold colonnadelaw13_kept.f at h
  split at h
  · obtain rfl := Option.some.inj h
    have hrt : Kd.C (Kd.int .u8) w A0 (l0 ++ Kd.Tb_tl).length (l0 ++ Kd.Tb_tl) := by rw [List.length_append]; exact hr0
    have hr0' : Kd.C (Kd.int .u8) w A0 l0.length l0 := by
      have := Kd.C_take (m := l0.length) hrt (by simp)
      rw [List.take_left'] at this
      · exact this
      · rfl
    have hk : ∃ k, colonnadelaw13_keptw.f k (l0 ++ Kd.Tb_tl) l0 l1 = some ((strOfNums l0).toList == (strOfNums l1).toList) := by
      apply Evn.ex
      unfold colonnadelaw13_keptw.f
      by_cases hs : (strOfNums l0).toList = (strOfNums l1).toList
      · refine Evn.pos hs ?_
        have e1 : wrap64 ((l0.length : Int) + 20) = ((l0.length + 20 : Nat) : Int) := by rw [wrap64_in (by omega) (by omega)]; omega
        have hl : l1.length = l0.length := by
          rw [ByteArray.toList_eq, ByteArray.toList_eq, strOfNums_data, strOfNums_data] at hs
          simpa using (congrArg List.length hs).symm
        rw [e1, beq_iff_eq.2 hs]
        refine Evn.pos (by omega) (Evn.pos (by simp only [List.length_append]; omega) ?_)
        rw [Int.toNat_natCast, List.take_of_length_le (by simp only [List.length_append]; omega)]
        exact keptw_l0 l1 l0 hl (by omega) 20 0 rfl
      · refine Evn.neg hs ?_
        rw [beq_eq_false_iff_ne.2 hs]
        exact Evn.now _
    obtain ⟨k, hk⟩ := hk
    exact colonnadelaw13_keptw.calls k _ A0 c0 l0 A1 c1 l1 _ w hr0' (by omega) hrt (by rw [List.length_append]; exact hc0) hr1 hc1 hk
  · exact absurd h (by simp)
end Go.Proofs.Ytgmeefgihidomaa.Pa
