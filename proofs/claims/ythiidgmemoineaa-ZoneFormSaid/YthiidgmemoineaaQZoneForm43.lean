/- The texts of ZoneForm, merged: part 43. -/
import Derived.Test.YthiidgmemoineaaQZoneForm29
import Derived.Test.YthiidgmemoineaaQZoneForm5
import Derived.Test.YthiidgmemoineaaQZoneForm24
import Derived.Test.YthiidgmemoineaaQZoneForm33
import Derived.Test.YthiidgmemoineaaQZoneForm17
import Derived.Test.YthiidgmemoineaaQZoneForm42
import Derived.Test.YthiidgmemoineaaQZoneForm18
import Derived.Test.YthiidgmemoineaaQZoneForm39
-- Written by xprint.py, a program of this session, over the kit's print. Not trusted: Lean checks it.
namespace Go.Proofs.Ythiidgmemoineaa.Pa
open Go.RowKit Go.Proofs.YthiidgmemoineaaW.PrintWords Go.Proofs.YthiidgmemoineaaW.PrintLast Go.Proofs.YthiidgmemoineaaW.PrintMore
attribute [local go_sem] max2_int min2_int max_two min_two max_three min_three max_four min_four   -- for this text's walks alone
attribute [local go_sem] run_store_float cmp_feq cmp_fne cmp_flt cmp_fle cmp_fgt cmp_fge un_fneg equalIn_feq run_fop run_fint run_freal cmp_sgt ext_bits ext_frombits ext_cmpb
set_option linter.unusedVariables false
set_option linter.unusedSimpArgs false

/-! ### colonnadelaw14_ZoneForm: function 7 -/
def colonnadelaw14_ZoneForm.f (k : Nat) (a0_0 : ByteArray) (a0_1 : Int) (a0_2 : Bool) (l1 : List Int) : Option (Bool) := (colonnadelaw14_awake.f k).bind fun t301 => (if t301 = true then ((cursor_Open.f l1).bind fun bt302 => ((zone_Take.f k a0_0 a0_1 a0_2 bt302.1 bt302.2.1 bt302.2.2).bind fun bt306 => ((colonnadelaw14_num.f bt306.2.2.2.2.2.2.2.2.2.2.1).bind fun t322 => (if t322 = 0 then ((zone_Put.f k a0_0 a0_1 a0_2 bt306.1 bt306.2.1 bt306.2.2.1 bt306.2.2.2.1 bt306.2.2.2.2.1 bt306.2.2.2.2.2.1 bt306.2.2.2.2.2.2.1 bt306.2.2.2.2.2.2.2.1 bt306.2.2.2.2.2.2.2.2.1 bt306.2.2.2.2.2.2.2.2.2.1).bind fun bt323 => ((cursor_Reader_Left.f bt302.1 bt306.2.2.2.2.2.2.2.2.2.2.2.1 bt306.2.2.2.2.2.2.2.2.2.2.2.2).bind fun bt327 => ((colonnadelaw14_num.f bt323.2).bind fun t330 => (if t330 = 0 then (if (wrap64 ((l1.length : Int) - bt327.1)) > 0 then (if (wrap64 ((l1.length : Int) - bt327.1)) ≤ (l1.length : Int) then (if 0 ≤ (wrap64 ((l1.length : Int) - bt327.1)) then (some ((strOfNums bt323.1).toList == (strOfNums (l1.take ((wrap64 ((l1.length : Int) - bt327.1)) : Int).toNat)).toList)) else (none)) else (some false)) else (some false)) else (some false))))) else ((colonnaderef14_Same.f bt306.1 bt306.2.1 bt306.2.2.1 bt306.2.2.2.1 bt306.2.2.2.2.1 bt306.2.2.2.2.2.1 bt306.2.2.2.2.2.2.1 bt306.2.2.2.2.2.2.2.1 bt306.2.2.2.2.2.2.2.2.1 bt306.2.2.2.2.2.2.2.2.2.1 0 0 0 (0 : Nat) (⟨#[]⟩ : ByteArray) 0 0 (0 : Nat) (⟨#[]⟩ : ByteArray) ([] : List Int)).bind fun t332 => (some t332)))))) else (some false))
theorem colonnadelaw14_ZoneForm.mono : ∀ a0 a1 a2 a3 k, LeO (colonnadelaw14_ZoneForm.f k a0 a1 a2 a3) (colonnadelaw14_ZoneForm.f (k + 1) a0 a1 a2 a3) := by
  intro a0 a1 a2 a3 k
  unfold colonnadelaw14_ZoneForm.f
  repeat' first
      | (with_reducible exact colonnadelaw14_awake.mono _)
      | (with_reducible exact zone_Put.mono _ _ _ _ _ _ _ _ _ _ _ _ _ _)
      | (with_reducible exact zone_Take.mono _ _ _ _ _ _ _)
      | (with_reducible exact LeO.refl _)
      | (with_reducible exact LeO.none _)
      | (with_reducible refine LeO.ite ?_ ?_)
      | (with_reducible refine LeO.bind ?_ (fun _ => ?_))
      | exact colonnadelaw14_awake.mono _
      | exact zone_Put.mono _ _ _ _ _ _ _ _ _ _ _ _ _ _
      | exact zone_Take.mono _ _ _ _ _ _ _
      | exact LeO.none _
      | refine LeO.ite ?_ ?_
      | refine LeO.bind ?_ (fun _ => ?_)
set_option maxHeartbeats 8000000 in
set_option maxRecDepth 100000 in
theorem colonnadelaw14_ZoneForm.callsQ (k : Nat) (a0_0 : ByteArray) (a0_1 : Int) (a0_2 : Bool) (A1 : Option Addr) (c1 : Nat) (l1 : List Int) (r : Bool) (w : World) (hr1 : Kd.C (Kd.int .u8) w A1 l1.length l1) (hc1 : l1.length ≤ c1) (h : colonnadelaw14_ZoneForm.f k a0_0 a0_1 a0_2 l1 = some r) (htrue : Aside0 (r = true)) (Q : World → Prop) (HQ : Aside0 (∀ w', Below w.heap.size w w' → Q w')) :
    Calls Try.prog 7 #[.agg #[.string a0_0, .int .i64 a0_1, .bool a0_2], .slice A1 l1.length c1] w fun e w' => e = .returned (.bool r) ∧ Q w' := by
  have hu23 := Try.underlying23
  have hu31 := Try.underlying31
  have HR1 := Aside0.mk hr1
  have HC1 := Aside0.mk hc1
  clear hr1 hc1
  have HB := Aside0.mk (Below.refl w.heap.size w)
  have H : ((colonnadelaw14_awake.f k).bind fun t301 => (if t301 = true then ((cursor_Open.f l1).bind fun bt302 => ((zone_Take.f k a0_0 a0_1 a0_2 bt302.1 bt302.2.1 bt302.2.2).bind fun bt306 => ((colonnadelaw14_num.f bt306.2.2.2.2.2.2.2.2.2.2.1).bind fun t322 => (if t322 = 0 then ((zone_Put.f k a0_0 a0_1 a0_2 bt306.1 bt306.2.1 bt306.2.2.1 bt306.2.2.2.1 bt306.2.2.2.2.1 bt306.2.2.2.2.2.1 bt306.2.2.2.2.2.2.1 bt306.2.2.2.2.2.2.2.1 bt306.2.2.2.2.2.2.2.2.1 bt306.2.2.2.2.2.2.2.2.2.1).bind fun bt323 => ((cursor_Reader_Left.f bt302.1 bt306.2.2.2.2.2.2.2.2.2.2.2.1 bt306.2.2.2.2.2.2.2.2.2.2.2.2).bind fun bt327 => ((colonnadelaw14_num.f bt323.2).bind fun t330 => (if t330 = 0 then (if (wrap64 ((l1.length : Int) - bt327.1)) > 0 then (if (wrap64 ((l1.length : Int) - bt327.1)) ≤ (l1.length : Int) then (if 0 ≤ (wrap64 ((l1.length : Int) - bt327.1)) then (some ((strOfNums bt323.1).toList == (strOfNums (l1.take ((wrap64 ((l1.length : Int) - bt327.1)) : Int).toNat)).toList)) else (none)) else (some false)) else (some false)) else (some false))))) else ((colonnaderef14_Same.f bt306.1 bt306.2.1 bt306.2.2.1 bt306.2.2.2.1 bt306.2.2.2.2.1 bt306.2.2.2.2.2.1 bt306.2.2.2.2.2.2.1 bt306.2.2.2.2.2.2.2.1 bt306.2.2.2.2.2.2.2.2.1 bt306.2.2.2.2.2.2.2.2.2.1 0 0 0 (0 : Nat) (⟨#[]⟩ : ByteArray) 0 0 (0 : Nat) (⟨#[]⟩ : ByteArray) ([] : List Int)).bind fun t332 => (some t332)))))) else (some false))) = some r := h
  clear h
  replace H := Option.bind_eq_some_iff.mp H
  obtain ⟨t301, A30, H⟩ := H
  (try dsimp only at H)
  have A3 := Aside0.mk A30
  clear A30
  by_cases c4 : t301 = true
  · subst c4
    rw [if_pos rfl] at H
    replace H := Option.bind_eq_some_iff.mp H
    obtain ⟨⟨t302, t303, t304⟩, A50, H⟩ := H
    (try dsimp only at H)
    have A5 := Aside0.mk A50
    clear A50
    replace H := Option.bind_eq_some_iff.mp H
    obtain ⟨⟨t306, t307, t308, t309, t310, t311, t312, t313, t314, t315, t318, t319, t320⟩, A60, H⟩ := H
    (try dsimp only at H)
    have A6 := Aside0.mk A60
    clear A60
    replace H := Option.bind_eq_some_iff.mp H
    obtain ⟨t322, A70, H⟩ := H
    (try dsimp only at H)
    have A7 := Aside0.mk A70
    clear A70
    by_cases c8 : t322 = 0
    · rw [if_pos c8] at H
      have c8b0 : (t322 == 0) = true := beq_iff_eq.mpr c8
      have c8b1 : (t322 != 0) = false := bne_eq_false_iff_eq.mpr c8
      clear c8
      replace H := Option.bind_eq_some_iff.mp H
      obtain ⟨⟨t323, t326⟩, A90, H⟩ := H
      (try dsimp only at H)
      have A9 := Aside0.mk A90
      clear A90
      replace H := Option.bind_eq_some_iff.mp H
      obtain ⟨⟨t327, t328, t329⟩, A100, H⟩ := H
      (try dsimp only at H)
      have A10 := Aside0.mk A100
      clear A100
      replace H := Option.bind_eq_some_iff.mp H
      obtain ⟨t330, A110, H⟩ := H
      (try dsimp only at H)
      have A11 := Aside0.mk A110
      clear A110
      by_cases c12 : t330 = 0
      · rw [if_pos c12] at H
        have c12b0 : (t330 == 0) = true := beq_iff_eq.mpr c12
        have c12b1 : (t330 != 0) = false := bne_eq_false_iff_eq.mpr c12
        clear c12
        by_cases c13 : (wrap64 ((l1.length : Int) - t327)) > 0
        · rw [if_pos c13] at H
          have c13b0 : decide (0 < (wrap64 ((l1.length : Int) - t327))) = true := decide_eq_true c13
          clear c13
          by_cases c14 : (wrap64 ((l1.length : Int) - t327)) ≤ (l1.length : Int)
          · rw [if_pos c14] at H
            have c14b0 : decide ((wrap64 ((l1.length : Int) - t327)) ≤ (l1.length : Int)) = true := decide_eq_true c14
            clear c14
            obtain ⟨ji15, hji15⟩ : ∃ j_ : Int, (wrap64 ((l1.length : Int) - t327)) = j_ := ⟨_, rfl⟩
            replace H : (if 0 ≤ (ji15) then (some ((strOfNums t323).toList == (strOfNums (l1.take ((ji15) : Int).toNat)).toList)) else (none)) = some r := by first | (rw [hji15] at H; exact H) | (simp only [hji15] at H ⊢; exact H)
            (try rw [hji15] at c13b0)
            (try rw [hji15] at c14b0)
            (try rw [hji15] at A3)
            (try rw [hji15] at A5)
            (try rw [hji15] at A6)
            (try rw [hji15] at A7)
            (try rw [hji15] at A9)
            (try rw [hji15] at A10)
            (try rw [hji15] at A11)
            have hji15w : (IntKind.i64.wrap ((l1.length : Int) - t327)) = ji15 := (i64_w _).trans hji15
            by_cases c16 : 0 ≤ (ji15)
            · rw [if_pos c16] at H
              have c16b0 := eq_true c16
              have c16b1 : decide (0 ≤ (ji15)) = true := decide_eq_true c16
              clear c16
              have c17b0 := eq_true (of_decide_eq_true (by first | (with_reducible assumption) | assumption) : (ji15) ≤ (l1.length : Int))
              obtain rfl := Option.some.inj H
              have hu23 := Try.underlying23
              have hu31 := Try.underlying31
              have HS := Aside0.mk (Std.and (Std.rowC HC1.out HR1.out) (Std.bel (Below.refl w.heap.size w)))
              clear HB
              go_enter Try.func7, Try.ntmps7
              go_upto_region 2 with (first | ((with_reducible refine gate_dst (N := 2) rfl ?_); refine box_event ?hg (N := 2) ?hd (cs := #[.string a0_0, .int .i64 a0_1, .bool a0_2]) (t := 23) ?hr ?_; (case hd => rfl); (case hg => rfl); (case hr => first | (go_simp; done) | (go_simp; rfl)); intro g2 hg_ w1 hbox hb_; have HG_ := Aside0.mk hg_; have HX_ := Aside0.mk hbox; have HY_ := Aside0.mk hb_; clear hg_ hbox hb_; have HGg2 := HG_; have HS1 := Aside0.mk (Std.and (Std.blk HX_.out) (Std.step HS.out HY_.out)); clear HS; have HS := HS1; clear HS1; clear HX_ HY_ HG_) | ((with_reducible refine gate_callee (f := 35) rfl ?_); (with_reducible refine gate_dst (N := 12) rfl ?_); refine goesL_ (some 12) rfl rfl Try.func35 (by kernel_rfl) rfl #[] rfl (by (try simp only [List.map_toArray, List.map_cons, List.map_nil]); first | done | rfl) ?_; refine (colonnadelaw14_awake.calls k true _ A3.out).mono ?_; rintro e w2 ⟨rfl, hb_⟩; refine ⟨_, rfl, ?_⟩; have HS1 := Aside0.mk (Std.step HS.out hb_); clear HS; have HS := HS1; clear HS1; clear hb_))
              go_upto_region 5 with ((with_reducible refine gate_callee (f := 27) rfl ?_); (with_reducible refine gate_dst (N := 16) rfl ?_); refine goesL_ (some 16) rfl rfl Try.func27 (by kernel_rfl) rfl #[.slice A1 l1.length c1] rfl (by (try simp only [List.map_toArray, List.map_cons, List.map_nil]); first | done | rfl) ?_; refine (cursor_Open.callsW _ _ l1 t302 t303 t304 _ HS.out.now.2.1.2 HS.out.now.2.1.1 A5.out).mono ?_; rintro e w3 ⟨W0, gr, rfl, hb0, HI, HB0⟩; refine ⟨_, rfl, ?_⟩; have HSo := Aside0.mk (Std.step HS.out hb0.out); clear HS hb0; have HS := Aside0.mk (Std.step HSo.out HB0.out))
              go_upto_region 6 with (first | ((with_reducible refine gate_dst (N := 18) rfl ?_); refine ld_blk (d := (.struct _)) rfl 23 _ rfl (by rfl) (HS.out.now.1) hu23 rfl (by kernel_rfl) ?_) | ((with_reducible refine gate_callee (f := 31) rfl ?_); (with_reducible refine gate_dst (N := 20) rfl ?_); refine goesL_ (some 20) rfl rfl Try.func31 (by kernel_rfl) rfl #[.agg #[.string a0_0, .int .i64 a0_1, .bool a0_2], .pointer (some ⟨gr, 0, none⟩)] rfl (by (try simp only [List.map_toArray, List.map_cons, List.map_nil]); first | done | rfl) ?_; refine (zone_Take.calls k a0_0 a0_1 a0_2 gr t302 t303 t304 t306 t307 t308 t309 t310 t311 t312 t313 t314 t315 t318 t319 t320 W0 _ HI.out HB0.out A6.out).mono ?_; rintro e w4 ⟨v9, rfl, ho, hI1, hb4, hk4⟩; obtain ⟨Az, cz, e9⟩ := Kd.R_slice ho; subst e9; refine ⟨_, rfl, ?_⟩; clear HI HS; have HS := Aside0.mk (Std.and (Std.rowR ho rfl) (Std.and (isg_std hI1 hb4) (Std.step HSo.out hb4))); clear HSo HB0 ho hI1 hb4 hk4) | ((with_reducible refine gate_dst (N := 7) rfl ?_); refine box_event ?hg (N := 7) ?hd (cs := #[.int .i64 0, .int .i64 0, .int .i64 0, .float .f64 0, .string ⟨#[]⟩, .int .i64 0, .int .i64 0, .float .f64 0, .string ⟨#[]⟩, .slice none 0 0]) (t := 31) ?hr ?_; (case hd => rfl); (case hg => rfl); (case hr => first | (go_simp; done) | (go_simp; rfl)); intro g7 hg_ w5 hbox hb_; have HG_ := Aside0.mk hg_; have HX_ := Aside0.mk hbox; have HY_ := Aside0.mk hb_; clear hg_ hbox hb_) | ((with_reducible refine gate_store (p := 7) rfl ?_); refine st_blk rfl 31 _ _ rfl rfl #[.int .i64 t306, .int .i64 t307, .int .i64 t308, .float .f64 t309, .string t310, .int .i64 t311, .int .i64 t312, .float .f64 t313, .string t314, .slice Az t315.length cz] (by rfl) (by rfl) HX_.out (by rfl) (by kernel_rfl) (by simp [Value.oneCell']) ?_; intro w6 hbox2 ho_; have hb2_ := Only.belowW ho_ HY_.out (Nat.le_of_eq HG_.out.symm); have HGg7 := HG_; clear HX_ HY_ HG_ ho_; have HS1 := Aside0.mk (Std.and (Std.blk hbox2) (Std.step HS.out hb2_)); clear HS; have HS := HS1; clear HS1; clear hb2_ hbox2))
              go_upto_region 10 with (first | ((with_reducible refine gate_callee (f := 15) rfl ?_); (with_reducible refine gate_dst (N := 24) rfl ?_); refine goesL_ (some 24) rfl rfl Try.func15 (by kernel_rfl) rfl #[.int .i64 t318] rfl (by (try simp only [List.map_toArray, List.map_cons, List.map_nil]); first | done | rfl) ?_; refine (colonnadelaw14_num.calls t318 t322 _ A7.out).mono ?_; rintro e w7 ⟨rfl, hb0_⟩; have hb_ := hb0_.below; refine ⟨_, rfl, ?_⟩; have HS1 := Aside0.mk (Std.step HS.out hb_); clear HS; have HS := HS1; clear HS1; clear hb_; clear hb0_) | ((with_reducible refine gate_dst (N := 30) rfl ?_); refine ld_blk (d := (.struct _)) rfl 23 _ rfl (by rfl) (HS.out.now.2.2.2.1) hu23 rfl (by kernel_rfl) ?_) | ((with_reducible refine gate_dst (N := 31) rfl ?_); refine ld_blk (d := (.struct _)) rfl 31 _ rfl (by rfl) (HS.out.now.1) hu31 rfl (by kernel_rfl) ?_) | ((with_reducible refine gate_callee (f := 21) rfl ?_); (with_reducible refine gate_dst (N := 32) rfl ?_); refine goesL_ (some 32) rfl rfl Try.func21 (by kernel_rfl) rfl #[.agg #[.string a0_0, .int .i64 a0_1, .bool a0_2], .agg #[.int .i64 t306, .int .i64 t307, .int .i64 t308, .float .f64 t309, .string t310, .int .i64 t311, .int .i64 t312, .float .f64 t313, .string t314, .slice Az t315.length cz]] rfl (by (try simp only [List.map_toArray, List.map_cons, List.map_nil]); first | done | rfl) ?_; refine (zone_Put.calls k a0_0 a0_1 a0_2 t306 t307 t308 t309 t310 t311 t312 t313 t314 Az cz t315 t323 t326 _ HS.out.now.2.1.2 HS.out.now.2.1.1 A9.out).mono ?_; rintro e w8 ⟨v0, rfl, ho, hb_⟩; obtain ⟨Ap, cp, e0⟩ := Kd.R_slice ho; subst e0; refine ⟨_, rfl, ?_⟩; have HS1 := Aside0.mk (Std.and (Std.rowR ho rfl) (Std.step HS.out hb_)); clear HS; have HS := HS1; clear HS1; clear hb_ ho) | ((with_reducible refine gate_callee (f := 32) rfl ?_); (with_reducible refine gate_dst (N := 38) rfl ?_); refine goesL_ (some 38) rfl rfl Try.func32 (by kernel_rfl) rfl #[.pointer (some ⟨gr, 0, none⟩)] rfl (by (try simp only [List.map_toArray, List.map_cons, List.map_nil]); first | done | rfl) ?_; refine (left_c HS.out.now.2.2.2.1 A10.out).mono ?_; rintro e w9 ⟨rfl, hb_⟩; refine ⟨_, rfl, ?_⟩; have HS1 := Aside0.mk (Std.step HS.out hb_); clear HS; have HS := HS1; clear HS1; clear hb_))
              have hst_ := fun (n_ : Nat) => Std.step HS.out (pw_below_drewN (Below.refl _ _) n_)
              have hcv1 := Kd.C_string (P := Try.prog) (A := Ap) (c := cp) Try.underlying29 Try.underlying5 Try.underlying9 HS.out.now.1.2
              have hcv1_d := fun (n_ : Nat) => Kd.C_string (P := Try.prog) (A := Ap) (c := cp) Try.underlying29 Try.underlying5 Try.underlying9 (hst_ n_).now.1.2
              obtain ⟨i0_, hi0_, _, hsz_, _⟩ := info_parts info5
              obtain ⟨hcut_, hA_, hC_⟩ := print_take_of (P := Try.prog) (Value.int .u8) 0 29 5 .i64 Try.underlying29 hi0_ hsz_ A1 c1 l1 (ji15) (of_decide_eq_true (by first | (with_reducible assumption) | assumption)) (of_decide_eq_true (by first | (with_reducible assumption) | assumption)) HC1.out
              have HR_ := Aside0.mk (Kd.C_of_reads (h1 := fun _ => rfl) (hA_ _ (Kd.reads_of_C HR1.out)))
              have hcv2_d := fun (n_ : Nat) => Kd.C_string (P := Try.prog) (A := A1) (c := c1) Try.underlying29 Try.underlying5 Try.underlying9 (Kd.C_below HR_.out (hst_ n_).now.2.2.2.2.2.2)
              have hcv2 := Kd.C_string (P := Try.prog) (A := A1) (c := c1) Try.underlying29 Try.underlying5 Try.underlying9 (Kd.C_below HR_.out HS.out.now.2.2.2.2.2.2)
              (try (have hcv2_e := hcv2_d; simp only [List.length_take] at hcv2_e; rw [Nat.min_eq_left (Int.toNat_le.mpr (of_decide_eq_true (by first | (with_reducible assumption) | assumption)))] at hcv2_e))
              clear hA_ hC_ hi0_ hsz_ hst_
              go_quiet (((go_at_call 15; (with_reducible refine (colonnadelaw14_num.calls t326 t330 _ A11.out).mono ?_); rintro e w' ⟨rfl, ⟨nd, rfl⟩⟩; (try first | exact ⟨rfl, _, World.drewN_drewN _ _ _⟩ | exact ⟨rfl, _, Eq.trans (World.drewN_drewN _ _ _) (congrArg (World.drewN _) (Nat.add_assoc _ _ _))⟩))))
              go_wp2
              go_ret
              exact ⟨by first | rfl | (simp only [← hji15]; rfl) | (simp [*] <;> rfl), HQ.out _ (pw_below_drewN HS.out.now.2.2.2.2.2.2 _)⟩
            · rw [if_neg c16] at H
              exact absurd H (by simp)
          · rw [if_neg c14] at H
            exact absurd ((Option.some.inj H).trans htrue.out) (by decide)
        · rw [if_neg c13] at H
          exact absurd ((Option.some.inj H).trans htrue.out) (by decide)
      · rw [if_neg c12] at H
        exact absurd ((Option.some.inj H).trans htrue.out) (by decide)
    · rw [if_neg c8] at H
      have c8b0 : (t322 == 0) = false := beq_eq_false_iff_ne.mpr c8
      have c8b1 : (t322 != 0) = true := bne_iff_ne.mpr c8
      replace H := Option.bind_eq_some_iff.mp H
      obtain ⟨t332, A770, H⟩ := H
      (try dsimp only at H)
      have A77 := Aside0.mk A770
      clear A770
      obtain rfl := Option.some.inj H
      have hu23 := Try.underlying23
      have hu31 := Try.underlying31
      have HS := Aside0.mk (Std.and (Std.rowC HC1.out HR1.out) (Std.bel (Below.refl w.heap.size w)))
      clear HB
      go_enter Try.func7, Try.ntmps7
      go_upto_region 2 with (first | ((with_reducible refine gate_dst (N := 2) rfl ?_); refine box_event ?hg (N := 2) ?hd (cs := #[.string a0_0, .int .i64 a0_1, .bool a0_2]) (t := 23) ?hr ?_; (case hd => rfl); (case hg => rfl); (case hr => first | (go_simp; done) | (go_simp; rfl)); intro g2 hg_ w1 hbox hb_; have HG_ := Aside0.mk hg_; have HX_ := Aside0.mk hbox; have HY_ := Aside0.mk hb_; clear hg_ hbox hb_; have HGg2 := HG_; have HS1 := Aside0.mk (Std.and (Std.blk HX_.out) (Std.step HS.out HY_.out)); clear HS; have HS := HS1; clear HS1; clear HX_ HY_ HG_) | ((with_reducible refine gate_callee (f := 35) rfl ?_); (with_reducible refine gate_dst (N := 12) rfl ?_); refine goesL_ (some 12) rfl rfl Try.func35 (by kernel_rfl) rfl #[] rfl (by (try simp only [List.map_toArray, List.map_cons, List.map_nil]); first | done | rfl) ?_; refine (colonnadelaw14_awake.calls k true _ A3.out).mono ?_; rintro e w2 ⟨rfl, hb_⟩; refine ⟨_, rfl, ?_⟩; have HS1 := Aside0.mk (Std.step HS.out hb_); clear HS; have HS := HS1; clear HS1; clear hb_))
      go_upto_region 5 with ((with_reducible refine gate_callee (f := 27) rfl ?_); (with_reducible refine gate_dst (N := 16) rfl ?_); refine goesL_ (some 16) rfl rfl Try.func27 (by kernel_rfl) rfl #[.slice A1 l1.length c1] rfl (by (try simp only [List.map_toArray, List.map_cons, List.map_nil]); first | done | rfl) ?_; refine (cursor_Open.callsW _ _ l1 t302 t303 t304 _ HS.out.now.2.1.2 HS.out.now.2.1.1 A5.out).mono ?_; rintro e w3 ⟨W0, gr, rfl, hb0, HI, HB0⟩; refine ⟨_, rfl, ?_⟩; have HSo := Aside0.mk (Std.step HS.out hb0.out); clear HS hb0; have HS := Aside0.mk (Std.step HSo.out HB0.out))
      go_upto_region 6 with (first | ((with_reducible refine gate_dst (N := 18) rfl ?_); refine ld_blk (d := (.struct _)) rfl 23 _ rfl (by rfl) (HS.out.now.1) hu23 rfl (by kernel_rfl) ?_) | ((with_reducible refine gate_callee (f := 31) rfl ?_); (with_reducible refine gate_dst (N := 20) rfl ?_); refine goesL_ (some 20) rfl rfl Try.func31 (by kernel_rfl) rfl #[.agg #[.string a0_0, .int .i64 a0_1, .bool a0_2], .pointer (some ⟨gr, 0, none⟩)] rfl (by (try simp only [List.map_toArray, List.map_cons, List.map_nil]); first | done | rfl) ?_; refine (zone_Take.calls k a0_0 a0_1 a0_2 gr t302 t303 t304 t306 t307 t308 t309 t310 t311 t312 t313 t314 t315 t318 t319 t320 W0 _ HI.out HB0.out A6.out).mono ?_; rintro e w4 ⟨v9, rfl, ho, hI1, hb4, hk4⟩; obtain ⟨Az, cz, e9⟩ := Kd.R_slice ho; subst e9; refine ⟨_, rfl, ?_⟩; clear HI HS; have HS := Aside0.mk (Std.and (Std.rowR ho rfl) (Std.and (isg_std hI1 hb4) (Std.step HSo.out hb4))); clear HSo HB0 ho hI1 hb4 hk4) | ((with_reducible refine gate_dst (N := 7) rfl ?_); refine box_event ?hg (N := 7) ?hd (cs := #[.int .i64 0, .int .i64 0, .int .i64 0, .float .f64 0, .string ⟨#[]⟩, .int .i64 0, .int .i64 0, .float .f64 0, .string ⟨#[]⟩, .slice none 0 0]) (t := 31) ?hr ?_; (case hd => rfl); (case hg => rfl); (case hr => first | (go_simp; done) | (go_simp; rfl)); intro g7 hg_ w5 hbox hb_; have HG_ := Aside0.mk hg_; have HX_ := Aside0.mk hbox; have HY_ := Aside0.mk hb_; clear hg_ hbox hb_) | ((with_reducible refine gate_store (p := 7) rfl ?_); refine st_blk rfl 31 _ _ rfl rfl #[.int .i64 t306, .int .i64 t307, .int .i64 t308, .float .f64 t309, .string t310, .int .i64 t311, .int .i64 t312, .float .f64 t313, .string t314, .slice Az t315.length cz] (by rfl) (by rfl) HX_.out (by rfl) (by kernel_rfl) (by simp [Value.oneCell']) ?_; intro w6 hbox2 ho_; have hb2_ := Only.belowW ho_ HY_.out (Nat.le_of_eq HG_.out.symm); have HGg7 := HG_; clear HX_ HY_ HG_ ho_; have HS1 := Aside0.mk (Std.and (Std.blk hbox2) (Std.step HS.out hb2_)); clear HS; have HS := HS1; clear HS1; clear hb2_ hbox2))
      go_upto_region 7 with ((with_reducible refine gate_callee (f := 15) rfl ?_); (with_reducible refine gate_dst (N := 24) rfl ?_); refine goesL_ (some 24) rfl rfl Try.func15 (by kernel_rfl) rfl #[.int .i64 t318] rfl (by (try simp only [List.map_toArray, List.map_cons, List.map_nil]); first | done | rfl) ?_; refine (colonnadelaw14_num.calls t318 t322 _ A7.out).mono ?_; rintro e w7 ⟨rfl, hb0_⟩; have hb_ := hb0_.below; refine ⟨_, rfl, ?_⟩; have HS1 := Aside0.mk (Std.step HS.out hb_); clear HS; have HS := HS1; clear HS1; clear hb_; clear hb0_)
      go_wp2_with (first | ((with_reducible refine gate_dst (N := 26) rfl ?_); refine ld_blk (d := (.struct _)) rfl 31 _ rfl (by rfl) (HS.out.now.1) hu31 rfl (by kernel_rfl) ?_) | ((with_reducible refine gate_callee (f := 16) rfl ?_); (with_reducible refine gate_dst (N := 28) rfl ?_); refine goesL_ (some 28) rfl rfl Try.func16 (by kernel_rfl) rfl #[.agg #[.int .i64 t306, .int .i64 t307, .int .i64 t308, .float .f64 t309, .string t310, .int .i64 t311, .int .i64 t312, .float .f64 t313, .string t314, .slice Az t315.length cz], .agg #[.int .i64 0, .int .i64 0, .int .i64 0, .float .f64 0, .string ⟨#[]⟩, .int .i64 0, .int .i64 0, .float .f64 0, .string ⟨#[]⟩, .slice none 0 0]] rfl (by (try simp only [List.map_toArray, List.map_cons, List.map_nil]); first | done | rfl) ?_; refine (colonnaderef14_Same.calls t306 t307 t308 t309 t310 t311 t312 t313 t314 Az cz t315 0 0 0 0 ⟨#[]⟩ 0 0 0 ⟨#[]⟩ none 0 [] t332 _ HS.out.now.2.1.2 HS.out.now.2.1.1 (C_zero _ _ _) (Nat.le_refl _) A77.out).mono ?_; rintro e w8 ⟨rfl, hb_⟩; refine ⟨_, rfl, ?_⟩; have HS1 := Aside0.mk (Std.step HS.out hb_); clear HS; have HS := HS1; clear HS1; clear hb_))
      go_ret
      exact ⟨rfl, HQ.out _ HS.out.now.2.2.2.2.2⟩
  · replace c4 := Bool.eq_false_iff.mpr c4
    subst c4
    have H1 : (some false) = some r := by rw [if_neg (show ¬ (false = true) by decide)] at H; exact H
    exact absurd ((Option.some.inj H1).trans htrue.out) (by decide)
theorem colonnadelaw14_ZoneForm.calls (k : Nat) (a0_0 : ByteArray) (a0_1 : Int) (a0_2 : Bool) (A1 : Option Addr) (c1 : Nat) (l1 : List Int) (r : Bool) (w : World) (hr1 : Kd.C (Kd.int .u8) w A1 l1.length l1) (hc1 : l1.length ≤ c1) (h : colonnadelaw14_ZoneForm.f k a0_0 a0_1 a0_2 l1 = some r) (htrue : Aside0 (r = true)) :
    Calls Try.prog 7 #[.agg #[.string a0_0, .int .i64 a0_1, .bool a0_2], .slice A1 l1.length c1] w fun e w' => e = .returned (.bool r) ∧ Below w.heap.size w w' := colonnadelaw14_ZoneForm.callsQ k a0_0 a0_1 a0_2 A1 c1 l1 r w hr1 hc1 h htrue (fun w' => Below w.heap.size w w') ⟨fun _ h => h⟩
end Go.Proofs.Ythiidgmemoineaa.Pa
