/- The texts of AtomTests, merged: part 6. -/
import Derived.Test.YtkedejphebfneaaQAtomTests2
import Derived.Test.YtkedejphebfneaaQAtomTests4
section
-- Written by xprint.py, a program of this session, over the kit's print. Not trusted: Lean checks it.
namespace Go.Proofs.Ytkedejphebfneaa.Pa
open Go.RowKit Go.Proofs.YtkedejphebfneaaW.PrintWords Go.Proofs.YtkedejphebfneaaW.PrintLast Go.Proofs.YtkedejphebfneaaW.PrintMore
attribute [local go_sem] max2_int min2_int max_two min_two max_three min_three max_four min_four   -- for this text's walks alone
attribute [local go_sem] run_store_float cmp_feq cmp_fne cmp_flt cmp_fle cmp_fgt cmp_fge un_fneg equalIn_feq run_fop run_fint run_freal cmp_sgt ext_bits ext_frombits ext_cmpb
set_option linter.unusedVariables false
set_option linter.unusedSimpArgs false

/-! ### colonnadelaw18_values: function 33 -/
def colonnadelaw18_values.f (l0 : List (S28)) : Option ((List (S28))) := if ([] : List (S28)).length + l0.length < 3518437208883 then (some (([] : List (S28)) ++ l0)) else (none)
set_option maxHeartbeats 8000000 in
set_option maxRecDepth 100000 in
theorem colonnadelaw18_values.calls (A0 : Option Addr) (c0 : Nat) (l0 : List (S28)) (r : List (S28)) (w : World) (hr0 : Kd.C k28 w A0 l0.length l0) (hc0 : l0.length ≤ c0) (h : colonnadelaw18_values.f l0 = some r) :
    Calls Try.prog 33 #[.slice A0 l0.length c0] w fun e w' => ∃ v0_ : Value, e = .returned (v0_) ∧ Kd.R k28 28 w' w.heap.size (fun _ => True) v0_ r ∧ Below w.heap.size w w' := by
  have HR0 := Aside0.mk hr0
  have HC0 := Aside0.mk hc0
  clear hr0 hc0
  have HB := Aside0.mk (Below.refl w.heap.size w)
  have H : (if ([] : List (S28)).length + l0.length < 3518437208883 then (some (([] : List (S28)) ++ l0)) else (none)) = some r := h
  clear h
  by_cases c2 : ([] : List (S28)).length + l0.length < 3518437208883
  · rw [if_pos c2] at H
    have LMc2 := Aside0.mk c2
    clear c2
    obtain ⟨y224, hy224⟩ : ∃ y_ : List (S28), y_ = (([] : List (S28)) ++ l0) := ⟨_, rfl⟩
    replace H : (some y224) = some r := by first | (rw [hy224]; with_reducible exact H) | (have H2_ := (Option.bind_some _ _).symm.trans H; rw [hy224]; with_reducible exact H2_) | (have H2_ := (Option.bind_some _ _).symm.trans H; with_reducible exact H2_) | with_reducible exact H | (rw [hy224]; exact H) | exact H
    have Ny224 := Aside0.mk hy224
    clear hy224
    obtain rfl := Option.some.inj H
    go_enter Try.func33, Try.ntmps33
    go_wp2_with (first | ((with_reducible refine gate_builtin (b := .append) (xs := #[.tmp 4, .tmp 5]) rfl ?_); at_builtin; refine Kd.R_append_rows k28 (w0 := w) w.heap.size rfl (.tmp 4) (.tmp 5) 25 28 (.agg #[(.int .i64 0), (.int .i64 0), (.float .f64 0), (.string ⟨#[]⟩)]) 40 rfl Try.underlying25 info28 rfl (by decide) (by omega) (.slice none 0 0) ([] : List (S28)) l0 _ _ _ (fun _ => True) (fun _ => False) rfl rfl ?aO ?aR (fun _ _ h => h) (fun _ h => h.elim) ?aF ?aB ?aS ?aL ?_; (case aR => repeat (first | exact HR0.out | (with_reducible refine Kd.C_alloc ?_ _) | (with_reducible refine Kd.C_drewN ?_ _) | (with_reducible refine Kd.C_drew ?_))); (case aB => exact (by repeat (first | (with_reducible first | exact HB.out | apply below_alloc | apply pw_below_drewN | apply below_drew1) | exact HB.out))); (case aF => exact (fun _ _ => trivial)); (case aO => exact ((Kd.R_nil _ _ _ _ (fun _ => True)))); (case aS => exact (below_size (by repeat (first | (with_reducible first | exact HB.out | apply below_alloc | apply pw_below_drewN | apply below_drew1) | exact HB.out)))); (case aL => have := LMc2.out; omega); intro v225 w3 ho hb hg hat; rw [← Ny224.out] at ho; have n0_ := Aside0.mk (hb); have n1_ := Aside0.mk (ho); clear HB; have HB := n0_; have HO226 := n1_; clear n0_ n1_; clear ho hb hg hat))
    go_ret
    exact ⟨_, by first | rfl | (simp [errW_none, errW_some] <;> rfl) | (simp [*, errW_none, errW_some] <;> rfl), by (with_reducible repeat (first | apply Kd.R_alloc | apply Kd.R_drewN | apply Kd.R_drew)); exact HO226.out, by repeat (first | (with_reducible first | exact HB.out | apply below_alloc | apply pw_below_drewN | apply below_drew1) | exact HB.out)⟩
  · rw [if_neg c2] at H
    exact absurd H (by simp)

/-! ### colonnadelaw18_twin: function 18 -/
def colonnadelaw18_twin.f (a0_0 : Int) (a0_1 : ByteArray) (a0_2 : Int) (a0_3 : Int) (a0_4 : Int) (a0_5 : Nat) (a0_6 : ByteArray) (l0_7 : List (S28)) (l0_8 : List (S32)) : Option (Int × ByteArray × Int × Int × Int × Nat × ByteArray × (List (S28)) × (List (S32))) := (colonnadelaw18_values.f l0_7).bind fun t229 => (if ([] : List (S32)).length + l0_8.length < 1172812402961 then (some (a0_0, a0_1, a0_2, a0_3, a0_4, a0_5, a0_6, t229, (([] : List (S32)) ++ l0_8))) else (none))
set_option maxHeartbeats 8000000 in
set_option maxRecDepth 100000 in
theorem colonnadelaw18_twin.calls (a0_0 : Int) (a0_1 : ByteArray) (a0_2 : Int) (a0_3 : Int) (a0_4 : Int) (a0_5 : Nat) (a0_6 : ByteArray) (A0_7 : Option Addr) (c0_7 : Nat) (l0_7 : List (S28)) (P0_8_ : Nat → Prop) (A0_8 : Option Addr) (c0_8 : Nat) (l0_8 : List (S32)) (r1 : Int) (r2 : ByteArray) (r3 : Int) (r4 : Int) (r5 : Int) (r6 : Nat) (r7 : ByteArray) (r8 : List (S28)) (r9 : List (S32)) (w : World) (hr0_7 : Kd.C k28 w A0_7 l0_7.length l0_7) (hc0_7 : l0_7.length ≤ c0_7) (hs0_8 : Kd.V k32 32 w w.heap.size (fun k_ => P0_8_ k_) (.slice A0_8 l0_8.length c0_8) l0_8) (h : colonnadelaw18_twin.f a0_0 a0_1 a0_2 a0_3 a0_4 a0_5 a0_6 l0_7 l0_8 = some (r1, r2, r3, r4, r5, r6, r7, r8, r9)) :
    Calls Try.prog 18 #[.agg #[.int .i64 a0_0, .string a0_1, .int .i64 a0_2, .int .i64 a0_3, .int .i64 a0_4, .float .f64 a0_5, .string a0_6, .slice A0_7 l0_7.length c0_7, .slice A0_8 l0_8.length c0_8]] w fun e w' => ∃ v7_ v8_ : Value, e = .returned (.agg #[.int .i64 r1, .string r2, .int .i64 r3, .int .i64 r4, .int .i64 r5, .float .f64 r6, .string r7, v7_, v8_]) ∧ Kd.R k28 28 w' w.heap.size (fun k_ => (w.heap.size ≤ k_)) v7_ r8 ∧ Kd.N k32 32 w' w.heap.size (fun k_ => (P0_8_ k_ ∨ w.heap.size ≤ k_) ∧ some k_ ≠ (v7_ : Value).ownBlock) v8_ r9 ∧ Below w.heap.size w w' := by
  have hu32 := Try.underlying32
  have HR0_7 := Aside0.mk hr0_7
  have HC0_7 := Aside0.mk hc0_7
  clear hr0_7 hc0_7
  have HO0_8 := Aside0.mk (show Kd.V k32 32 w w.heap.size (fun k_ => (P0_8_ k_ ∨ w.heap.size ≤ k_)) (.slice A0_8 l0_8.length c0_8) l0_8 from Kd.V_mono hs0_8 (fun k_ hk => .inl hk))
  have HB := Aside0.mk (Below.refl w.heap.size w)
  have H : ((colonnadelaw18_values.f l0_7).bind fun t229 => (if ([] : List (S32)).length + l0_8.length < 1172812402961 then (some (a0_0, a0_1, a0_2, a0_3, a0_4, a0_5, a0_6, t229, (([] : List (S32)) ++ l0_8))) else (none))) = some (r1, r2, r3, r4, r5, r6, r7, r8, r9) := h
  clear h
  replace H := Option.bind_eq_some_iff.mp H
  obtain ⟨t229, A20, H⟩ := H
  replace H : (if ([] : List (S32)).length + l0_8.length < 1172812402961 then (some (a0_0, a0_1, a0_2, a0_3, a0_4, a0_5, a0_6, t229, (([] : List (S32)) ++ l0_8))) else (none)) = some (r1, r2, r3, r4, r5, r6, r7, r8, r9) := H
  have A2 := Aside0.mk A20
  clear A20
  by_cases c3 : ([] : List (S32)).length + l0_8.length < 1172812402961
  · rw [if_pos c3] at H
    have LMc3 := Aside0.mk c3
    clear c3
    obtain ⟨y232, hy232⟩ : ∃ y_ : List (S32), y_ = (([] : List (S32)) ++ l0_8) := ⟨_, rfl⟩
    replace H : (some (a0_0, a0_1, a0_2, a0_3, a0_4, a0_5, a0_6, t229, y232)) = some (r1, r2, r3, r4, r5, r6, r7, r8, r9) := by first | (rw [hy232]; with_reducible exact H) | (have H2_ := (Option.bind_some _ _).symm.trans H; rw [hy232]; with_reducible exact H2_) | (have H2_ := (Option.bind_some _ _).symm.trans H; with_reducible exact H2_) | with_reducible exact H | (rw [hy232]; exact H) | exact H
    have Ny232 := Aside0.mk hy232
    clear hy232
    simp only [Option.some.injEq, Prod.mk.injEq] at H
    obtain ⟨rfl, rfl, rfl, rfl, rfl, rfl, rfl, rfl, rfl⟩ := H
    go_enter Try.func18, Try.ntmps18
    go_wp2_with (first | ((with_reducible refine gate_dst (N := 1) rfl ?_); refine box_event ?hg (N := 1) ?hd (cs := #[.int .i64 a0_0, .string a0_1, .int .i64 a0_2, .int .i64 a0_3, .int .i64 a0_4, .float .f64 a0_5, .string a0_6, .slice A0_7 l0_7.length c0_7, .slice A0_8 l0_8.length c0_8]) (t := 32) ?hr ?_; (case hd => rfl); (case hg => rfl); (case hr => first | (go_simp; done) | (go_simp; rfl)); intro gb227 hg w4 hbox hb; have n0_ := Aside0.mk (Kd.V_below (Kd.V_elderB (by (with_reducible repeat (first | apply Kd.V_alloc | apply Kd.V_drewN | apply Kd.V_drew)); exact HO0_8.out) gb227 (Nat.le_of_eq hg.symm)) hb); have n1_ := Aside0.mk (below_step (by repeat (first | (with_reducible first | exact HB.out | apply below_alloc | apply pw_below_drewN | apply below_drew1) | exact HB.out)) hb); have n2_ := Aside0.mk (hbox); have n3_ := Aside0.mk ((by rw [hg]; exact (below_size (by repeat (first | (with_reducible first | exact HB.out | apply below_alloc | apply pw_below_drewN | apply below_drew1) | exact HB.out))) : w.heap.size ≤ gb227)); have n4_ := Aside0.mk ((by rw [hg]; exact (below_size (by repeat (first | (with_reducible first | exact HB.out | apply below_alloc | apply pw_below_drewN | apply below_drew1) | exact HB.out))) : w.heap.size ≤ gb227)); clear HO0_8; clear HB; have HO0_8 := n0_; have HB := n1_; have BK227 := n2_; have GW227 := n3_; have GE227 := n4_; clear n0_ n1_ n2_ n3_ n4_; clear hb hbox hg) | ((with_reducible refine gate_dst (N := 2) rfl ?_); refine box_event ?hg (N := 2) ?hd (cs := #[.int .i64 0, .string (⟨#[]⟩ : ByteArray), .int .i64 0, .int .i64 0, .int .i64 0, .float .f64 (0 : Nat), .string (⟨#[]⟩ : ByteArray), .slice none 0 0, .slice none 0 0]) (t := 32) ?hr ?_; (case hd => rfl); (case hg => rfl); (case hr => first | (go_simp; done) | (go_simp; rfl)); intro gb228 hg w5 hbox hb; have n0_ := Aside0.mk (Kd.V_below (Kd.V_elderB (by (with_reducible repeat (first | apply Kd.V_alloc | apply Kd.V_drewN | apply Kd.V_drew)); exact HO0_8.out) gb228 (Nat.le_of_eq hg.symm)) hb); have n1_ := blkS BK227 hb; have n2_ := Aside0.mk (below_step (by repeat (first | (with_reducible first | exact HB.out | apply below_alloc | apply pw_below_drewN | apply below_drew1 | refine below_set ?_ GE227.out) | exact HB.out)) hb); have n3_ := Aside0.mk (hbox); have n4_ := Aside0.mk ((by rw [hg]; exact (below_size (by repeat (first | (with_reducible first | exact HB.out | apply below_alloc | apply pw_below_drewN | apply below_drew1 | refine below_set ?_ GE227.out) | exact HB.out))) : w.heap.size ≤ gb228)); have n5_ := Aside0.mk ((by rw [hg]; exact (below_size (by repeat (first | (with_reducible first | exact HB.out | apply below_alloc | apply pw_below_drewN | apply below_drew1 | refine below_set ?_ GE227.out) | exact HB.out))) : w.heap.size ≤ gb228)); have n6_ := Aside0.mk ((by rw [hg]; exact Nat.ne_of_lt (blk_lt (g := gb227) (o := .cells #[.int .i64 a0_0, .string a0_1, .int .i64 a0_2, .int .i64 a0_3, .int .i64 a0_4, .float .f64 a0_5, .string a0_6, .slice A0_7 l0_7.length c0_7, .slice A0_8 l0_8.length c0_8] 32 (0, 0)) (by (with_reducible repeat (first | refine blk_drewN ?_ _ | refine blk_drew ?_ | refine blk_alloc ?_ _)); exact BK227.out)) : gb227 ≠ gb228)); have n7_ := Aside0.mk ((by rw [hg]; exact Nat.ne_of_gt (blk_lt (g := gb227) (o := .cells #[.int .i64 a0_0, .string a0_1, .int .i64 a0_2, .int .i64 a0_3, .int .i64 a0_4, .float .f64 a0_5, .string a0_6, .slice A0_7 l0_7.length c0_7, .slice A0_8 l0_8.length c0_8] 32 (0, 0)) (by (with_reducible repeat (first | refine blk_drewN ?_ _ | refine blk_drew ?_ | refine blk_alloc ?_ _)); exact BK227.out)) : gb228 ≠ gb227)); clear HO0_8; clear BK227; clear HB; have HO0_8 := n0_; have BK227 := n1_; have HB := n2_; have BK228 := n3_; have GW228 := n4_; have GE228 := n5_; have NB227_228 := n6_; have NB228_227 := n7_; clear n0_ n1_ n2_ n3_ n4_ n5_ n6_ n7_; clear hb hbox hg; have hnb6 := NB227_228.out; have hnc6 := NB228_227.out; obtain ⟨hcz7_0, hcz7_1, hcz7_2, hcz7_3, hcz7_4, hcz7_5, hcz7_6, hcz7_7, hcz7_8⟩ := cells_9 BK227.out; obtain ⟨hfz7_0, hfz7_1, hfz7_2, hfz7_3, hfz7_4, hfz7_5, hfz7_6, hfz7_7, hfz7_8⟩ := froz_9 BK227.out) | ((with_reducible refine gate_callee (f := 33) rfl ?_); refine goesL_ (some 6) rfl rfl Try.func33 (by kernel_rfl) rfl #[.slice A0_7 l0_7.length c0_7] rfl (by (try simp only [List.map_toArray, List.map_cons, List.map_nil]); first | done | rfl | (simp only [List.length_drop, List.length_take]; rfl)) ?_; (with_reducible refine (colonnadelaw18_values.calls _ _ l0_7 t229 _ ?side1 ?side2 A2.out).mono ?_); (case side1 => repeat (first | exact (Kd.C_below HR0_7.out HB.out) | (with_reducible refine Kd.C_alloc ?_ _) | (with_reducible refine Kd.C_drewN ?_ _) | (with_reducible refine Kd.C_drew ?_))); (case side2 => exact HC0_7.out); rintro e w8 ⟨v230, rfl, ho0, hb⟩; refine ⟨_, rfl, ?_⟩; have n0_ := Aside0.mk (Kd.V_elder' (by (with_reducible repeat (first | apply Kd.V_alloc | apply Kd.V_drewN | apply Kd.V_drew)); exact HO0_8.out) (Kd.R_base ho0) hb); have n1_ := Aside0.mk (Kd.R_lower (Kd.R_newM (M := fun k_ => (w.heap.size ≤ k_)) ho0 (below_size (by repeat (first | (with_reducible first | exact HB.out | apply below_alloc | apply pw_below_drewN | apply below_drew1 | refine below_set ?_ GE227.out | refine below_set ?_ GE228.out) | exact HB.out))) (fun k_ h_ => h_)) (below_size (by repeat (first | (with_reducible first | exact HB.out | apply below_alloc | apply pw_below_drewN | apply below_drew1 | refine below_set ?_ GE227.out | refine below_set ?_ GE228.out) | exact HB.out)))); have n2_ := blkS BK227 hb; have n3_ := blkS BK228 hb; have n4_ := Aside0.mk (below_step (by repeat (first | (with_reducible first | exact HB.out | apply below_alloc | apply pw_below_drewN | apply below_drew1 | refine below_set ?_ GE227.out | refine below_set ?_ GE228.out) | exact HB.out)) hb); clear HO0_8; clear BK227; clear BK228; clear HB; have HO0_8 := n0_; have HO231 := n1_; have BK227 := n2_; have BK228 := n3_; have HB := n4_; clear n0_ n1_ n2_ n3_ n4_; (try clear hb); (try clear hb2); (try clear hk); (try clear hi); (try clear ho0); obtain ⟨Ao9, co9, eo9⟩ := Kd.R_slice HO231.out; subst eo9; obtain ⟨hcz10_0, hcz10_1, hcz10_2, hcz10_3, hcz10_4, hcz10_5, hcz10_6, hcz10_7, hcz10_8⟩ := cells_9 BK227.out; obtain ⟨hfz10_0, hfz10_1, hfz10_2, hfz10_3, hfz10_4, hfz10_5, hfz10_6, hfz10_7, hfz10_8⟩ := froz_9 BK227.out) | ((with_reducible refine gate_builtin (b := .append) (xs := #[.tmp 8, .tmp 10]) rfl ?_); at_builtin; refine Kd.N_append_rows k32 (w0 := w) w.heap.size rfl (.tmp 8) (.tmp 10) 30 32 (.agg #[(.int .i64 0), (.string ⟨#[]⟩), (.int .i64 0), (.int .i64 0), (.int .i64 0), (.float .f64 0), (.string ⟨#[]⟩), (.slice none 0 0), (.slice none 0 0)]) 120 rfl Try.underlying30 info32 rfl (by decide) (by omega) (.slice none 0 0) ([] : List (S32)) l0_8 _ _ _ (fun k_ => (P0_8_ k_ ∨ w.heap.size ≤ k_) ∧ some k_ ≠ (.slice Ao9 t229.length co9 : Value).ownBlock ∧ k_ ≠ gb227 ∧ k_ ≠ gb228) (fun k_ => ((fun k_ => (P0_8_ k_ ∨ w.heap.size ≤ k_) ∧ some k_ ≠ (.slice Ao9 t229.length co9 : Value).ownBlock ∧ k_ ≠ gb227 ∧ k_ ≠ gb228)) k_ ∧ some k_ ≠ (.slice none 0 0 : Value).ownBlock) rfl rfl ?aO ?aR (fun _ hk => hk) ?aF ?aB ?aS ?aL ?_; (case aR => exact (by skip; exact Kd.V_F (Kd.V_mono (ok' := (fun k_ => ((fun k_ => (P0_8_ k_ ∨ w.heap.size ≤ k_) ∧ some k_ ≠ (.slice Ao9 t229.length co9 : Value).ownBlock ∧ k_ ≠ gb227 ∧ k_ ≠ gb228)) k_ ∧ some k_ ≠ (.slice none 0 0 : Value).ownBlock)) ((Kd.V_far (p := ⟨gb227, 7, none⟩) (Kd.V_mono HO0_8.out (fun k_ hk => (⟨hk, hk.1.1.2⟩ : _ ∧ k_ ≠ gb227))) (fun _ hk => hk.2) (.slice Ao9 t229.length co9))) (fun k_ hk => ⟨⟨hk.1.1.1.1, ⟨hk.1.2, ⟨hk.1.1.1.2, hk.1.1.2⟩⟩⟩, (by simp [Value.ownBlock])⟩)))); (case aB => exact (by repeat (first | (with_reducible first | exact HB.out | apply below_alloc | apply pw_below_drewN | apply below_drew1 | refine below_set ?_ GE227.out | refine below_set ?_ GE228.out) | exact HB.out))); (case aF => exact (fun k_ hk => ⟨(.inr (Nat.le_trans (below_size (by repeat (first | (with_reducible first | exact HB.out | apply below_alloc | apply pw_below_drewN | apply below_drew1 | refine below_set ?_ GE227.out | refine below_set ?_ GE228.out) | exact HB.out))) hk)), Kd.fresh' (Kd.R_lt (by (with_reducible repeat (first | apply Kd.R_alloc | apply Kd.R_drewN | apply Kd.R_drew)); exact (Kd.R_mono (Kd.R_far (p := ⟨gb227, 7, none⟩) (Kd.R_types HO231.out BK227.out (by decide)) (fun _ hk => hk.2) (.slice Ao9 t229.length co9)) (fun _ h_ => h_.1)))) k_ hk, Kd.freshB (g := gb227) (o := .cells #[.int .i64 a0_0, .string a0_1, .int .i64 a0_2, .int .i64 a0_3, .int .i64 a0_4, .float .f64 a0_5, .string a0_6, .slice Ao9 t229.length co9, .slice A0_8 l0_8.length c0_8] 32 (0, 0)) (by (with_reducible repeat (first | refine blk_drewN ?_ _ | refine blk_drew ?_ | refine blk_alloc ?_ _)); refine blk_put (cs := #[.int .i64 a0_0, .string a0_1, .int .i64 a0_2, .int .i64 a0_3, .int .i64 a0_4, .float .f64 a0_5, .string a0_6, .slice A0_7 l0_7.length c0_7, .slice A0_8 l0_8.length c0_8]) ?_ 7 _ rfl; (with_reducible repeat (first | refine blk_drewN ?_ _ | refine blk_drew ?_ | refine blk_alloc ?_ _)); exact BK227.out) k_ hk, Kd.freshB (g := gb228) (o := .cells #[.int .i64 0, .string (⟨#[]⟩ : ByteArray), .int .i64 0, .int .i64 0, .int .i64 0, .float .f64 (0 : Nat), .string (⟨#[]⟩ : ByteArray), .slice none 0 0, .slice none 0 0] 32 (0, 0)) (by (with_reducible repeat (first | refine blk_drewN ?_ _ | refine blk_drew ?_ | refine blk_alloc ?_ _)); refine blk_far ?_ NB228_227.out _; (with_reducible repeat (first | refine blk_drewN ?_ _ | refine blk_drew ?_ | refine blk_alloc ?_ _)); exact BK228.out) k_ hk⟩)); (case aO => exact ((Kd.N_nil _ _ _ _ (fun k_ => (P0_8_ k_ ∨ w.heap.size ≤ k_) ∧ some k_ ≠ (.slice Ao9 t229.length co9 : Value).ownBlock ∧ k_ ≠ gb227 ∧ k_ ≠ gb228)))); (case aS => exact (below_size (by repeat (first | (with_reducible first | exact HB.out | apply below_alloc | apply pw_below_drewN | apply below_drew1 | refine below_set ?_ GE227.out | refine below_set ?_ GE228.out) | exact HB.out)))); (case aL => have := LMc3.out; omega); intro v233 w11 ho hb hg hat; rw [← Ny232.out] at ho; have n0_ := Aside0.mk (Kd.V_afterv (Kd.V_apart_nil (by (with_reducible repeat (first | apply Kd.V_alloc | apply Kd.V_drewN | apply Kd.V_drew)); exact (Kd.V_mono (Kd.V_far (p := ⟨gb227, 7, none⟩) (Kd.V_mono HO0_8.out (fun k_ hk => (⟨hk, hk.1.1.2⟩ : _ ∧ k_ ≠ gb227))) (fun _ hk => hk.2) (.slice Ao9 t229.length co9)) (fun _ h_ => h_.1)))) hg hat); have n1_ := Aside0.mk (blk_grown (g := gb227) (o := .cells #[.int .i64 a0_0, .string a0_1, .int .i64 a0_2, .int .i64 a0_3, .int .i64 a0_4, .float .f64 a0_5, .string a0_6, .slice Ao9 t229.length co9, .slice A0_8 l0_8.length c0_8] 32 (0, 0)) (by (with_reducible repeat (first | refine blk_drewN ?_ _ | refine blk_drew ?_ | refine blk_alloc ?_ _)); refine blk_put (cs := #[.int .i64 a0_0, .string a0_1, .int .i64 a0_2, .int .i64 a0_3, .int .i64 a0_4, .float .f64 a0_5, .string a0_6, .slice A0_7 l0_7.length c0_7, .slice A0_8 l0_8.length c0_8]) ?_ 7 _ rfl; (with_reducible repeat (first | refine blk_drewN ?_ _ | refine blk_drew ?_ | refine blk_alloc ?_ _)); exact BK227.out) hg (by simp [Value.ownBlock])); have n2_ := Aside0.mk (blk_grown (g := gb228) (o := .cells #[.int .i64 0, .string (⟨#[]⟩ : ByteArray), .int .i64 0, .int .i64 0, .int .i64 0, .float .f64 (0 : Nat), .string (⟨#[]⟩ : ByteArray), .slice none 0 0, .slice none 0 0] 32 (0, 0)) (by (with_reducible repeat (first | refine blk_drewN ?_ _ | refine blk_drew ?_ | refine blk_alloc ?_ _)); refine blk_far ?_ NB228_227.out _; (with_reducible repeat (first | refine blk_drewN ?_ _ | refine blk_drew ?_ | refine blk_alloc ?_ _)); exact BK228.out) hg (by simp [Value.ownBlock])); have n3_ := Aside0.mk (Kd.R_grown (by (with_reducible repeat (first | apply Kd.R_alloc | apply Kd.R_drewN | apply Kd.R_drew)); exact (Kd.R_mono (Kd.R_far (p := ⟨gb227, 7, none⟩) (Kd.R_types HO231.out BK227.out (by decide)) (fun _ hk => hk.2) (.slice Ao9 t229.length co9)) (fun _ h_ => h_.1))) hg (fun _ _ => by simp [Value.ownBlock])); have n4_ := Aside0.mk (hb); have n5_ := Aside0.mk (ho); clear HO0_8; clear BK227; clear BK228; clear HO231; clear HB; have HO0_8 := n0_; have BK227 := n1_; have BK228 := n2_; have HO231 := n3_; have HB := n4_; have HO234 := n5_; clear n0_ n1_ n2_ n3_ n4_ n5_; clear ho hb hg hat; obtain ⟨Ao12, co12, eo12⟩ := Kd.N_slice HO234.out; subst eo12; obtain ⟨hcz13_0, hcz13_1, hcz13_2, hcz13_3, hcz13_4, hcz13_5, hcz13_6, hcz13_7, hcz13_8⟩ := cells_9 BK227.out; obtain ⟨hfz13_0, hfz13_1, hfz13_2, hfz13_3, hfz13_4, hfz13_5, hfz13_6, hfz13_7, hfz13_8⟩ := froz_9 BK227.out; obtain ⟨hcz14_0, hcz14_1, hcz14_2, hcz14_3, hcz14_4, hcz14_5, hcz14_6, hcz14_7, hcz14_8⟩ := cells_9 BK228.out; obtain ⟨hfz14_0, hfz14_1, hfz14_2, hfz14_3, hfz14_4, hfz14_5, hfz14_6, hfz14_7, hfz14_8⟩ := froz_9 BK228.out))
    refine bodyPost_ret (results_cell_row rfl _ _ gb228 32 #[.int .i64 a0_0, .string a0_1, .int .i64 a0_2, .int .i64 a0_3, .int .i64 a0_4, .float .f64 a0_5, .string a0_6, .slice Ao9 t229.length co9, .slice Ao12 y232.length co12] (0, 0) _ rfl (by (with_reducible repeat (first | refine blk_drewN ?_ _ | refine blk_drew ?_ | refine blk_alloc ?_ _)); refine blk_put (cs := #[.int .i64 a0_0, .string a0_1, .int .i64 a0_2, .int .i64 a0_3, .int .i64 a0_4, .float .f64 a0_5, .string a0_6, .slice Ao9 t229.length co9, .slice none 0 0]) ?_ 8 _ rfl; (with_reducible repeat (first | refine blk_drewN ?_ _ | refine blk_drew ?_ | refine blk_alloc ?_ _)); refine blk_put (cs := #[.int .i64 a0_0, .string a0_1, .int .i64 a0_2, .int .i64 a0_3, .int .i64 a0_4, .float .f64 a0_5, .string a0_6, .slice none 0 0, .slice none 0 0]) ?_ 7 _ rfl; (with_reducible repeat (first | refine blk_drewN ?_ _ | refine blk_drew ?_ | refine blk_alloc ?_ _)); refine blk_put (cs := #[.int .i64 a0_0, .string a0_1, .int .i64 a0_2, .int .i64 a0_3, .int .i64 a0_4, .float .f64 a0_5, .string (⟨#[]⟩ : ByteArray), .slice none 0 0, .slice none 0 0]) ?_ 6 _ rfl; (with_reducible repeat (first | refine blk_drewN ?_ _ | refine blk_drew ?_ | refine blk_alloc ?_ _)); refine blk_put (cs := #[.int .i64 a0_0, .string a0_1, .int .i64 a0_2, .int .i64 a0_3, .int .i64 a0_4, .float .f64 (0 : Nat), .string (⟨#[]⟩ : ByteArray), .slice none 0 0, .slice none 0 0]) ?_ 5 _ rfl; (with_reducible repeat (first | refine blk_drewN ?_ _ | refine blk_drew ?_ | refine blk_alloc ?_ _)); refine blk_put (cs := #[.int .i64 a0_0, .string a0_1, .int .i64 a0_2, .int .i64 a0_3, .int .i64 0, .float .f64 (0 : Nat), .string (⟨#[]⟩ : ByteArray), .slice none 0 0, .slice none 0 0]) ?_ 4 _ rfl; (with_reducible repeat (first | refine blk_drewN ?_ _ | refine blk_drew ?_ | refine blk_alloc ?_ _)); refine blk_put (cs := #[.int .i64 a0_0, .string a0_1, .int .i64 a0_2, .int .i64 0, .int .i64 0, .float .f64 (0 : Nat), .string (⟨#[]⟩ : ByteArray), .slice none 0 0, .slice none 0 0]) ?_ 3 _ rfl; (with_reducible repeat (first | refine blk_drewN ?_ _ | refine blk_drew ?_ | refine blk_alloc ?_ _)); refine blk_put (cs := #[.int .i64 a0_0, .string a0_1, .int .i64 0, .int .i64 0, .int .i64 0, .float .f64 (0 : Nat), .string (⟨#[]⟩ : ByteArray), .slice none 0 0, .slice none 0 0]) ?_ 2 _ rfl; (with_reducible repeat (first | refine blk_drewN ?_ _ | refine blk_drew ?_ | refine blk_alloc ?_ _)); refine blk_put (cs := #[.int .i64 a0_0, .string (⟨#[]⟩ : ByteArray), .int .i64 0, .int .i64 0, .int .i64 0, .float .f64 (0 : Nat), .string (⟨#[]⟩ : ByteArray), .slice none 0 0, .slice none 0 0]) ?_ 1 _ rfl; (with_reducible repeat (first | refine blk_drewN ?_ _ | refine blk_drew ?_ | refine blk_alloc ?_ _)); refine blk_put (cs := #[.int .i64 0, .string (⟨#[]⟩ : ByteArray), .int .i64 0, .int .i64 0, .int .i64 0, .float .f64 (0 : Nat), .string (⟨#[]⟩ : ByteArray), .slice none 0 0, .slice none 0 0]) ?_ 0 _ rfl; (with_reducible repeat (first | refine blk_drewN ?_ _ | refine blk_drew ?_ | refine blk_alloc ?_ _)); refine blk_far ?_ NB228_227.out _; (with_reducible repeat (first | refine blk_drewN ?_ _ | refine blk_drew ?_ | refine blk_alloc ?_ _)); exact BK228.out) Try.underlying32 rfl (by kernel_rfl)) rfl ?_
    exact ⟨_, _, by first | rfl | (simp [errW_none, errW_some] <;> rfl) | (simp [*, errW_none, errW_some] <;> rfl), by (with_reducible repeat (first | apply Kd.R_alloc | apply Kd.R_drewN | apply Kd.R_drew)); exact Kd.R_mono (Kd.R_far (p := ⟨gb228, 8, none⟩) (Kd.R_far (p := ⟨gb228, 7, none⟩) (Kd.R_far (p := ⟨gb228, 6, none⟩) (Kd.R_far (p := ⟨gb228, 5, none⟩) (Kd.R_far (p := ⟨gb228, 4, none⟩) (Kd.R_far (p := ⟨gb228, 3, none⟩) (Kd.R_far (p := ⟨gb228, 2, none⟩) (Kd.R_far (p := ⟨gb228, 1, none⟩) (Kd.R_far (p := ⟨gb228, 0, none⟩) (Kd.R_far (p := ⟨gb227, 8, none⟩) (Kd.R_types (Kd.R_types HO231.out BK227.out (by decide)) BK228.out (by decide)) (fun _ hk => hk.1.2) (.slice Ao12 y232.length co12)) (fun _ hk => hk.2) (.int .i64 a0_0)) (fun _ hk => hk.2) (.string a0_1)) (fun _ hk => hk.2) (.int .i64 a0_2)) (fun _ hk => hk.2) (.int .i64 a0_3)) (fun _ hk => hk.2) (.int .i64 a0_4)) (fun _ hk => hk.2) (.float .f64 a0_5)) (fun _ hk => hk.2) (.string a0_6)) (fun _ hk => hk.2) (.slice Ao9 t229.length co9)) (fun _ hk => hk.2) (.slice Ao12 y232.length co12)) (fun _ hk => hk.1.1.1), by (with_reducible repeat (first | apply Kd.N_alloc | apply Kd.N_drewN | apply Kd.N_drew)); exact Kd.N_mono (Kd.N_far (p := ⟨gb228, 8, none⟩) (Kd.N_far (p := ⟨gb228, 7, none⟩) (Kd.N_far (p := ⟨gb228, 6, none⟩) (Kd.N_far (p := ⟨gb228, 5, none⟩) (Kd.N_far (p := ⟨gb228, 4, none⟩) (Kd.N_far (p := ⟨gb228, 3, none⟩) (Kd.N_far (p := ⟨gb228, 2, none⟩) (Kd.N_far (p := ⟨gb228, 1, none⟩) (Kd.N_far (p := ⟨gb228, 0, none⟩) (Kd.N_far (p := ⟨gb227, 8, none⟩) (Kd.N_mono (Kd.N_mono HO234.out (fun k_ hk => (⟨hk, hk.2.2.1⟩ : _ ∧ k_ ≠ gb227))) (fun k_ hk => (⟨hk, hk.1.2.2.2⟩ : _ ∧ k_ ≠ gb228))) (fun _ hk => hk.1.2) (.slice Ao12 y232.length co12)) (fun _ hk => hk.2) (.int .i64 a0_0)) (fun _ hk => hk.2) (.string a0_1)) (fun _ hk => hk.2) (.int .i64 a0_2)) (fun _ hk => hk.2) (.int .i64 a0_3)) (fun _ hk => hk.2) (.int .i64 a0_4)) (fun _ hk => hk.2) (.float .f64 a0_5)) (fun _ hk => hk.2) (.string a0_6)) (fun _ hk => hk.2) (.slice Ao9 t229.length co9)) (fun _ hk => hk.2) (.slice Ao12 y232.length co12)) (fun _ hk => ⟨hk.1.1.1, hk.1.1.2.1⟩), by repeat (first | (with_reducible first | exact HB.out | apply below_alloc | apply pw_below_drewN | apply below_drew1 | refine below_set ?_ GE227.out | refine below_set ?_ GE228.out) | exact HB.out)⟩
  · rw [if_neg c3] at H
    exact absurd H (by simp)

end Go.Proofs.Ytkedejphebfneaa.Pa
end
section
/- Reals by their bits: how two finite ones stand to each other, their difference, their whole part. No program in sight. -/
namespace Go.Proofs.Ytkedejphebfneaa.F
open Go.Proofs.YtkedejphebfneaaW.PrintWords
set_option linter.unusedVariables false
set_option linter.unusedSimpArgs false
/-- The sign and the rung of a word. -/
def sg (b : Nat) : Bool := b / 9223372036854775808 % 2 == 1
def rg (b : Nat) : Nat := b % 9223372036854775808
/-- The rung of infinity. -/
def infR : Nat := 9218868437227405312
/-- A rung's magnitude, in units of the least subnormal number. -/
def V (r : Nat) : Nat := if r < 4503599627370496 then r else (4503599627370496 + r % 4503599627370496) * 2 ^ (r / 4503599627370496 - 1)
def val (b : Nat) : Int := if sg b then -(V (rg b) : Int) else (V (rg b) : Int)
theorem e_sw : Ieee.double.signWeight = 9223372036854775808 := by decide +kernel
theorem e_bin : Ieee.double.binade = 4503599627370496 := by decide +kernel
theorem e_inf : Ieee.double.infRung = 9218868437227405312 := by decide +kernel
theorem e_lp : Ieee.double.leastPlace = -1074 := by decide +kernel
theorem e_fb : Ieee.double.fractionBits = 52 := rfl
theorem rg_lt (b : Nat) : rg b < 9223372036854775808 := Nat.mod_lt _ (by decide)
theorem read_fin {b : Nat} (h : rg b < infR) : ∃ m e : Nat, Ieee.double.read b = .number (sg b) m (-1074 + (e : Int)) ∧ m * 2 ^ e = V (rg b) := by
  unfold Ieee.Format.read
  rw [e_sw, e_bin, e_inf, e_lp]
  simp only []
  by_cases h1 : rg b < 4503599627370496
  · refine ⟨rg b, 0, ?_, ?_⟩
    · rw [if_pos (show b % 9223372036854775808 < 4503599627370496 from h1)]; rfl
    · unfold V; rw [if_pos h1]; simp
  · refine ⟨4503599627370496 + rg b % 4503599627370496, rg b / 4503599627370496 - 1, ?_, ?_⟩
    · rw [if_neg (show ¬ b % 9223372036854775808 < 4503599627370496 from h1), if_pos (show b % 9223372036854775808 < 9218868437227405312 from h)]; rfl
    · unfold V; rw [if_neg h1]
theorem read_inf {b : Nat} (h : rg b = infR) : Ieee.double.read b = .infinity (sg b) := by
  unfold Ieee.Format.read
  rw [e_sw, e_bin, e_inf, e_lp]
  have h' : b % 9223372036854775808 = 9218868437227405312 := h
  simp only [h']
  rw [if_neg (by omega), if_neg (by omega), if_pos trivial]; rfl
theorem read_nan {b : Nat} (h : infR < rg b) : ∃ t, Ieee.double.read b = .nan (sg b) t := by
  unfold Ieee.Format.read
  rw [e_sw, e_bin, e_inf, e_lp]
  have h' : 9218868437227405312 < b % 9223372036854775808 := h
  simp only []
  rw [if_neg (by omega), if_neg (by omega), if_neg (by omega)]
  exact ⟨_, rfl⟩
theorem V_mono {r s : Nat} (h : r < s) : V r < V s := by
  unfold V
  by_cases h1 : s < 4503599627370496
  · rw [if_pos h1, if_pos (by omega)]; exact h
  · rw [if_neg h1]
    have hs : 4503599627370496 ≤ (4503599627370496 + s % 4503599627370496) * 2 ^ (s / 4503599627370496 - 1) := by
      have := Nat.two_pow_pos (s / 4503599627370496 - 1)
      calc 4503599627370496 ≤ 4503599627370496 + s % 4503599627370496 := by omega
        _ ≤ _ := Nat.le_mul_of_pos_right _ this
    by_cases h2 : r < 4503599627370496
    · rw [if_pos h2]; omega
    · rw [if_neg h2]
      have hq : r / 4503599627370496 ≤ s / 4503599627370496 := by omega
      rcases Nat.lt_or_ge (r / 4503599627370496) (s / 4503599627370496) with h3 | h3
      · obtain ⟨d, hd⟩ : ∃ d, s / 4503599627370496 - 1 = (r / 4503599627370496 - 1) + 1 + d := ⟨s / 4503599627370496 - 1 - (r / 4503599627370496 - 1) - 1, by omega⟩
        rw [hd, Nat.pow_add, Nat.pow_succ]
        have p1 := Nat.two_pow_pos (r / 4503599627370496 - 1)
        have p2 := Nat.two_pow_pos d
        generalize 2 ^ (r / 4503599627370496 - 1) = a at *
        generalize 2 ^ d = c at *
        have l1 : (4503599627370496 + r % 4503599627370496) * a < 9007199254740992 * a := Nat.mul_lt_mul_of_pos_right (by omega) p1
        have l2 : 9007199254740992 * a ≤ (4503599627370496 + s % 4503599627370496) * (a * 2) := by
          have : 4503599627370496 * (a * 2) ≤ (4503599627370496 + s % 4503599627370496) * (a * 2) := Nat.mul_le_mul_right _ (by omega)
          omega
        have l3 : (4503599627370496 + s % 4503599627370496) * (a * 2) ≤ (4503599627370496 + s % 4503599627370496) * (a * 2 * c) := Nat.mul_le_mul_left _ (Nat.le_mul_of_pos_right _ p2)
        omega
      · have : r / 4503599627370496 = s / 4503599627370496 := by omega
        rw [this]
        exact Nat.mul_lt_mul_of_pos_right (by omega) (Nat.two_pow_pos _)
theorem V_inj {r s : Nat} (h : V r = V s) : r = s := by
  rcases Nat.lt_trichotomy r s with h1 | h1 | h1
  · have := V_mono h1; omega
  · exact h1
  · have := V_mono h1; omega
theorem V_le {r s : Nat} (h : r ≤ s) : V r ≤ V s := by
  rcases Nat.lt_or_ge r s with h1 | h1
  · exact Nat.le_of_lt (V_mono h1)
  · have : r = s := by omega
    subst this; exact Nat.le_refl _
theorem V_zero : V 0 = 0 := by unfold V; rfl
theorem V_pos {r : Nat} (h : 0 < r) : 0 < V r := by have := V_mono h; rw [V_zero] at this; exact this
theorem signed_eq (s : Bool) (m k : Nat) : Ieee.signed s m k = (if s then -((m * 2 ^ k : Nat) : Int) else ((m * 2 ^ k : Nat) : Int)) := by
  unfold Ieee.signed
  rw [Nat.shiftLeft_eq]
theorem cmp_scale (x y c : Int) (hc : 0 < c) : compare (x * c) (y * c) = compare x y := by
  rcases Int.lt_trichotomy x y with h | h | h
  · rw [Int.compare_eq_lt.2 h, Int.compare_eq_lt.2 (Int.mul_lt_mul_of_pos_right h hc)]
  · subst h; rw [Int.compare_eq_eq.2 rfl, Int.compare_eq_eq.2 rfl]
  · rw [Int.compare_eq_gt.2 h, Int.compare_eq_gt.2 (Int.mul_lt_mul_of_pos_right h hc)]
theorem scale_one (s : Bool) (m e b : Nat) (h : b ≤ e) : (Ieee.signed s m (e - b)) * ((2 ^ b : Nat) : Int) = (if s then -((m * 2 ^ e : Nat) : Int) else ((m * 2 ^ e : Nat) : Int)) := by
  rw [signed_eq]
  have : m * 2 ^ (e - b) * 2 ^ b = m * 2 ^ e := by rw [Nat.mul_assoc, ← Nat.pow_add]; congr 2; omega
  cases s
  · simp only [Bool.false_eq_true, if_false]; rw [← Int.natCast_mul, this]
  · simp only [if_true]; rw [Int.neg_mul, ← Int.natCast_mul, this]
/-- Two finite reals stand to each other as their values. -/
theorem order_fin {a b : Nat} (ha : rg a < infR) (hb : rg b < infR) : Ieee.double.order a b = some (compare (val a) (val b)) := by
  obtain ⟨m, e, h1, v1⟩ := read_fin ha
  obtain ⟨n, f, h2, v2⟩ := read_fin hb
  unfold Ieee.Format.order
  rw [h1, h2]
  simp only [Ieee.Datum.order]
  congr 1
  have hb1 : (-1074 + (e : Int) - min (-1074 + (e : Int)) (-1074 + (f : Int))).toNat = e - min e f := by omega
  have hb2 : (-1074 + (f : Int) - min (-1074 + (e : Int)) (-1074 + (f : Int))).toNat = f - min e f := by omega
  rw [hb1, hb2, ← cmp_scale _ _ ((2 ^ min e f : Nat) : Int) (by have := Nat.two_pow_pos (min e f); omega), scale_one _ _ _ _ (by omega), scale_one _ _ _ _ (by omega), v1, v2]
  rfl
theorem feq_fin {a b : Nat} (ha : rg a < infR) (hb : rg b < infR) : feq a b = decide (val a = val b) := by
  unfold feq
  rw [show FloatKind.f64.format = Ieee.double from rfl, order_fin ha hb]
  rcases Int.lt_trichotomy (val a) (val b) with h | h | h
  · rw [Int.compare_eq_lt.2 h, decide_eq_false (by omega)]; rfl
  · rw [Int.compare_eq_eq.2 h, decide_eq_true h]; rfl
  · rw [Int.compare_eq_gt.2 h, decide_eq_false (by omega)]; rfl
theorem flt_fin {a b : Nat} (ha : rg a < infR) (hb : rg b < infR) : flt a b = decide (val a < val b) := by
  unfold flt
  rw [show FloatKind.f64.format = Ieee.double from rfl, order_fin ha hb]
  rcases Int.lt_trichotomy (val a) (val b) with h | h | h
  · rw [Int.compare_eq_lt.2 h, decide_eq_true h]; rfl
  · rw [Int.compare_eq_eq.2 h, decide_eq_false (by omega)]; rfl
  · rw [Int.compare_eq_gt.2 h, decide_eq_false (by omega)]; rfl
theorem fgt_fin {a b : Nat} (ha : rg a < infR) (hb : rg b < infR) : fgt a b = decide (val a > val b) := by
  unfold fgt
  rw [show FloatKind.f64.format = Ieee.double from rfl, order_fin ha hb]
  rcases Int.lt_trichotomy (val a) (val b) with h | h | h
  · rw [Int.compare_eq_lt.2 h, decide_eq_false (by omega)]; rfl
  · rw [Int.compare_eq_eq.2 h, decide_eq_false (by omega)]; rfl
  · rw [Int.compare_eq_gt.2 h, decide_eq_true h]; rfl
theorem fle_fin {a b : Nat} (ha : rg a < infR) (hb : rg b < infR) : fle a b = decide (val a ≤ val b) := by
  unfold fle
  rw [show FloatKind.f64.format = Ieee.double from rfl, order_fin ha hb]
  rcases Int.lt_trichotomy (val a) (val b) with h | h | h
  · rw [Int.compare_eq_lt.2 h, decide_eq_true (by omega)]; rfl
  · rw [Int.compare_eq_eq.2 h, decide_eq_true (by omega)]; rfl
  · rw [Int.compare_eq_gt.2 h, decide_eq_false (by omega)]; rfl
theorem fge_fin {a b : Nat} (ha : rg a < infR) (hb : rg b < infR) : fge a b = decide (val a ≥ val b) := by
  unfold fge
  rw [show FloatKind.f64.format = Ieee.double from rfl, order_fin ha hb]
  rcases Int.lt_trichotomy (val a) (val b) with h | h | h
  · rw [Int.compare_eq_lt.2 h, decide_eq_false (by omega)]; rfl
  · rw [Int.compare_eq_eq.2 h, decide_eq_true (by omega)]; rfl
  · rw [Int.compare_eq_gt.2 h, decide_eq_true (by omega)]; rfl
/-- Against a word that is no number nothing stands. -/
theorem order_nan {a b : Nat} (h : infR < rg a ∨ infR < rg b) : Ieee.double.order a b = none := by
  unfold Ieee.Format.order
  rcases h with h | h
  · obtain ⟨t, e⟩ := read_nan h
    rw [e]; cases Ieee.double.read b <;> rfl
  · obtain ⟨t, e⟩ := read_nan h
    rw [e]; cases Ieee.double.read a <;> rfl
/-- A word is itself, but one that is no number. -/
theorem feq_self (a : Nat) : feq a a = decide (rg a ≤ infR) := by
  rcases Nat.lt_trichotomy (rg a) infR with h | h | h
  · rw [feq_fin h h, decide_eq_true rfl, decide_eq_true (Nat.le_of_lt h)]
  · rw [decide_eq_true (Nat.le_of_eq h)]
    unfold feq
    rw [show FloatKind.f64.format = Ieee.double from rfl]
    unfold Ieee.Format.order
    rw [read_inf h]
    simp only [Ieee.Datum.order]
    cases sg a <;> rfl
  · rw [decide_eq_false (by omega)]
    unfold feq
    rw [show FloatKind.f64.format = Ieee.double from rfl, order_nan (.inl h)]
    rfl
theorem val_zero : val 0 = 0 := by unfold val sg rg; simp [V_zero]
theorem val_eq_zero {b : Nat} : val b = 0 ↔ rg b = 0 := by
  unfold val
  constructor
  · intro h
    rcases Nat.eq_zero_or_pos (rg b) with h1 | h1
    · exact h1
    · have := V_pos h1
      split at h <;> omega
  · intro h
    rw [h, V_zero]; split <;> rfl
theorem rg_zero : rg 0 < infR := by decide
/-- The absolute value is finite. -/
theorem rg_rg (b : Nat) : rg (rg b) = rg b := Nat.mod_eq_of_lt (rg_lt b)
theorem sg_rg (b : Nat) : sg (rg b) = false := by
  unfold sg
  rw [Nat.div_eq_of_lt (rg_lt b)]; rfl
theorem fle_max (b : Nat) : fle (rg b) 9218868437227405311 = decide (rg b < infR) := by
  have hm : rg 9218868437227405311 < infR := by decide
  have sm : sg 9218868437227405311 = false := by decide
  have e : rg 9218868437227405311 = 9218868437227405311 := by decide
  rcases Nat.lt_trichotomy (rg b) infR with h | h | h
  · rw [fle_fin (by rw [rg_rg]; exact h) hm, decide_eq_true h]
    simp only [val, sg_rg, sm, rg_rg, e, Bool.false_eq_true, if_false]
    have : rg b ≤ 9218868437227405311 := by unfold infR at h; omega
    have := V_le this
    exact decide_eq_true (by omega)
  · rw [decide_eq_false (by omega)]
    unfold fle
    rw [show FloatKind.f64.format = Ieee.double from rfl]
    unfold Ieee.Format.order
    obtain ⟨m, x, h2, _⟩ := read_fin hm
    rw [read_inf (b := rg b) (by rw [rg_rg]; exact h), h2, sg_rg]
    rfl
  · rw [decide_eq_false (by omega)]
    unfold fle
    rw [show FloatKind.f64.format = Ieee.double from rfl, order_nan (.inl (by rw [rg_rg]; exact h))]
    rfl
theorem split_word {b : Nat} (h : b < 18446744073709551616) : b = (if sg b then 9223372036854775808 else 0) + rg b := by
  unfold sg rg
  by_cases h1 : b < 9223372036854775808
  · rw [Nat.div_eq_of_lt h1]; simp; omega
  · have : b / 9223372036854775808 = 1 := by omega
    rw [this]; simp; omega
theorem wf_word {b : Nat} (h : (Lit.float .f64 b).wf = true) : b < 18446744073709551616 := by
  simpa [Lit.wf] using h
end Go.Proofs.Ytkedejphebfneaa.F
end
section
/- Reals by their bits: their difference, their whole part, a whole number as a real. No program in sight. -/
namespace Go.Proofs.Ytkedejphebfneaa.F
open Go.Proofs.YtkedejphebfneaaW.PrintWords
set_option linter.unusedVariables false
set_option linter.unusedSimpArgs false
theorem cut_none (neg : Bool) (n : Nat) : Ieee.Toward.even.cut neg n 0 = n := by
  unfold Ieee.Toward.cut
  simp [Nat.mod_one]
theorem word_rg (neg : Bool) {r : Nat} (h : r < 9223372036854775808) : rg (Ieee.double.word neg r) = r ∧ sg (Ieee.double.word neg r) = neg := by
  unfold Ieee.Format.word rg sg
  rw [e_sw]
  cases neg
  · simp only [Bool.false_eq_true, if_false]
    rw [Nat.div_eq_of_lt h]
    exact ⟨Nat.mod_eq_of_lt h, rfl⟩
  · simp only [if_true]
    have : (9223372036854775808 + r) / 9223372036854775808 = 1 := by omega
    rw [this]
    exact ⟨by omega, rfl⟩
theorem nearest_pos (neg : Bool) {mag : Nat} {place : Int} (hm : 0 < mag) (hp : -1074 ≤ place) : ∃ r, 0 < r ∧ r ≤ infR ∧ Ieee.double.nearest neg mag place = Ieee.double.word neg r := by
  unfold Ieee.Format.nearest
  rw [if_neg (by omega)]
  refine ⟨_, ?_, Nat.min_le_right _ _, rfl⟩
  rw [e_lp, e_fb, e_bin]
  have hi : (0 : Nat) < infR := by decide
  refine Nat.lt_min.2 ⟨?_, hi⟩
  generalize hl : max (place + (mag.log2 : Int) - (52 : Nat)) (-1074) = last
  by_cases h : last = -1074
  · have e0 : (last - place).toNat = 0 := by omega
    rw [e0, cut_none, Nat.shiftLeft_eq]
    have := Nat.mul_pos hm (Nat.two_pow_pos (place - last).toNat)
    omega
  · have : 1 ≤ (last - -1074).toNat := by omega
    have : 1 * 4503599627370496 ≤ (last - -1074).toNat * 4503599627370496 := Nat.mul_le_mul_right _ this
    omega
/-- How the difference of two finite reals stands to nought. -/
theorem sub_fin {a b : Nat} (ha : rg a < infR) (hb : rg b < infR) : ∃ r, fbits .sub a b = some r ∧ rg r ≤ infR ∧ (rg r = 0 ↔ val a = val b) ∧ (rg r ≠ 0 → sg r = decide (val a < val b)) := by
  obtain ⟨m, e, h1, v1⟩ := read_fin ha
  obtain ⟨n, f, h2, v2⟩ := read_fin hb
  unfold fbits
  simp only []
  rw [show FloatKind.f64.format = Ieee.double from rfl]
  unfold Ieee.Format.sub
  rw [h1, h2]
  simp only [Ieee.Datum.opposite, Ieee.Datum.sum, Option.map_some]
  refine ⟨_, rfl, ?_⟩
  have hb1 : (-1074 + (e : Int) - min (-1074 + (e : Int)) (-1074 + (f : Int))).toNat = e - min e f := by omega
  have hb2 : (-1074 + (f : Int) - min (-1074 + (e : Int)) (-1074 + (f : Int))).toNat = f - min e f := by omega
  rw [hb1, hb2]
  have ht : (Ieee.signed (sg a) m (e - min e f) + Ieee.signed (!sg b) n (f - min e f)) * ((2 ^ min e f : Nat) : Int) = val a - val b := by
    rw [Int.add_mul, scale_one _ _ _ _ (Nat.min_le_left _ _), scale_one _ _ _ _ (Nat.min_le_right _ _), v1, v2]
    unfold val
    cases sg b <;> simp <;> omega
  generalize Ieee.signed (sg a) m (e - min e f) + Ieee.signed (!sg b) n (f - min e f) = t at ht ⊢
  have hp : (0 : Int) < ((2 ^ min e f : Nat) : Int) := by have := Nat.two_pow_pos (min e f); omega
  generalize ((2 ^ min e f : Nat) : Int) = c at ht hp
  have h0 : t = 0 ↔ val a = val b := by
    constructor
    · intro h; rw [h, Int.zero_mul] at ht; omega
    · intro h
      rw [h, Int.sub_self] at ht
      rcases Int.mul_eq_zero.1 ht with h | h
      · exact h
      · omega
  have hn : t < 0 ↔ val a < val b := by
    constructor
    · intro h
      have := Int.mul_neg_of_neg_of_pos h hp
      omega
    · intro h
      rcases Int.lt_trichotomy t 0 with h3 | h3 | h3
      · exact h3
      · rw [h3, Int.zero_mul] at ht; omega
      · have := Int.mul_pos h3 hp; omega
  unfold Ieee.Format.write
  simp only []
  by_cases hz : t = 0
  · have e0 : t.natAbs = 0 := by omega
    rw [e0]
    unfold Ieee.Format.nearest
    rw [if_pos rfl]
    obtain ⟨r1, r2⟩ := word_rg (if t = 0 then sg a && !sg b else decide (t < 0)) (r := 0) (by decide)
    rw [r1]
    exact ⟨Nat.zero_le _, ⟨fun _ => h0.1 hz, fun _ => rfl⟩, fun h => absurd rfl h⟩
  · obtain ⟨r, hr1, hr2, hr3⟩ := nearest_pos (if t = 0 then sg a && !sg b else decide (t < 0)) (mag := t.natAbs) (place := min (-1074 + (e : Int)) (-1074 + (f : Int))) (by omega) (by omega)
    rw [hr3]
    have hi : infR < 9223372036854775808 := by decide
    obtain ⟨r1, r2⟩ := word_rg (if t = 0 then sg a && !sg b else decide (t < 0)) (r := r) (by omega)
    rw [r1, r2]
    refine ⟨hr2, ⟨fun h => by omega, fun h => absurd (h0.2 h) hz⟩, fun _ => ?_⟩
    rw [if_neg hz]
    exact decide_eq_decide.2 hn
/-- Nought against a word that is a number or infinite. -/
theorem flt_zero {r : Nat} (h : rg r ≤ infR) : flt 0 r = (decide (rg r ≠ 0) && !sg r) := by
  rcases Nat.lt_or_ge (rg r) infR with h1 | h1
  · rw [flt_fin rg_zero h1, val_zero]
    by_cases hz : rg r = 0
    · rw [val_eq_zero.2 hz]; simp [hz]
    · have := V_pos (Nat.pos_of_ne_zero hz)
      unfold val
      cases sg r <;> simp [hz] <;> omega
  · have h2 : rg r = infR := by omega
    have h3 : rg r ≠ 0 := by rw [h2]; decide
    unfold flt
    rw [show FloatKind.f64.format = Ieee.double from rfl]
    unfold Ieee.Format.order
    obtain ⟨m, x, h4, _⟩ := read_fin rg_zero
    rw [read_inf h2, h4]
    cases hs : sg r <;> simp [Ieee.Datum.order, h3]
theorem fgt_zero {r : Nat} (h : rg r ≤ infR) : fgt 0 r = (decide (rg r ≠ 0) && sg r) := by
  rcases Nat.lt_or_ge (rg r) infR with h1 | h1
  · rw [fgt_fin rg_zero h1, val_zero]
    by_cases hz : rg r = 0
    · rw [val_eq_zero.2 hz]; simp [hz]
    · have := V_pos (Nat.pos_of_ne_zero hz)
      unfold val
      cases sg r <;> simp [hz] <;> omega
  · have h2 : rg r = infR := by omega
    have h3 : rg r ≠ 0 := by rw [h2]; decide
    unfold fgt
    rw [show FloatKind.f64.format = Ieee.double from rfl]
    unfold Ieee.Format.order
    obtain ⟨m, x, h4, _⟩ := read_fin rg_zero
    rw [read_inf h2, h4]
    cases hs : sg r <;> simp [Ieee.Datum.order, h3]
/-- The difference, as it is held against nought. -/
theorem sub_signs {a b : Nat} (ha : rg a < infR) (hb : rg b < infR) : ∃ r, fbits .sub a b = some r ∧ rg r ≤ infR ∧ flt 0 r = decide (val b < val a) ∧ fgt 0 r = decide (val a < val b) ∧ feq r r = true := by
  obtain ⟨r, h1, h2, h3, h4⟩ := sub_fin ha hb
  refine ⟨r, h1, h2, ?_, ?_, by rw [feq_self, decide_eq_true h2]⟩
  · rw [flt_zero h2]
    by_cases hz : rg r = 0
    · have := h3.1 hz; simp [hz]; omega
    · have hne : val a ≠ val b := fun h => hz (h3.2 h)
      rw [h4 hz]
      by_cases hl : val a < val b
      · simp [hl]; omega
      · simp [hl, hz]; omega
  · rw [fgt_zero h2]
    by_cases hz : rg r = 0
    · have := h3.1 hz; simp [hz]; omega
    · rw [h4 hz]; simp [hz]
/-- One, in the units of the least subnormal number. -/
theorem div_gen (m e d : Nat) (h : d ≤ e) : m * 2 ^ e / 2 ^ d = m * 2 ^ (e - d) := by
  obtain ⟨c, rfl⟩ := Nat.exists_eq_add_of_le h
  rw [Nat.add_sub_cancel_left, Nat.pow_add, Nat.mul_comm (2 ^ d), ← Nat.mul_assoc, Nat.mul_div_cancel _ (Nat.two_pow_pos d)]
def U : Nat := 2 ^ 1074
theorem cut_trunc (neg : Bool) (n drop : Nat) : Ieee.Toward.zero.cut neg n drop = n / 2 ^ drop := by
  unfold Ieee.Toward.cut
  simp only [Bool.toNat_false, Nat.add_zero]
  rw [Nat.shiftLeft_eq, Nat.one_mul]
  rcases Nat.le_total drop (n.log2 + 2) with h | h
  · rw [Nat.min_eq_left h]
  · rw [Nat.min_eq_right h]
    have h1 := Nat.lt_log2_self (n := n)
    have h2 : 2 ^ (n.log2 + 1) ≤ 2 ^ (n.log2 + 2) := Nat.pow_le_pow_right (by decide) (by omega)
    have h3 : 2 ^ (n.log2 + 2) ≤ 2 ^ drop := Nat.pow_le_pow_right (by decide) h
    rw [Nat.div_eq_of_lt (by omega), Nat.div_eq_of_lt (by omega)]
def trunc (f : Nat) : Int := if sg f then -((V (rg f) / U : Nat) : Int) else ((V (rg f) / U : Nat) : Int)
theorem toInt_fin {f : Nat} (h : rg f < infR) : (FloatKind.f64.decode f).toInt .zero = some (trunc f) := by
  obtain ⟨m, e, h1, v1⟩ := read_fin h
  unfold FloatKind.decode
  rw [show FloatKind.f64.format = Ieee.double from rfl, h1]
  unfold Ieee.Datum.toInt
  simp only [Ieee.Datum.integral]
  rw [cut_trunc, signed_eq, Nat.shiftLeft_eq]
  have hq : m * 2 ^ (-1074 + (e : Int)).toNat / 2 ^ (-(-1074 + (e : Int))).toNat = V (rg f) / U := by
    rw [← v1]
    unfold U
    rcases Nat.le_total 1074 e with he | he
    · have e1 : (-1074 + (e : Int)).toNat = e - 1074 := by omega
      have e2 : (-(-1074 + (e : Int))).toNat = 0 := by omega
      rw [e1, e2, Nat.pow_zero, Nat.div_one]
      rw [div_gen m e 1074 he]
    · have e1 : (-1074 + (e : Int)).toNat = 0 := by omega
      have e2 : (-(-1074 + (e : Int))).toNat = 1074 - e := by omega
      rw [e1, e2, Nat.pow_zero, Nat.mul_one]
      have : (2 : Nat) ^ 1074 = 2 ^ (1074 - e) * 2 ^ e := by rw [← Nat.pow_add]; congr 1; omega
      rw [this, Nat.mul_div_mul_right _ _ (Nat.two_pow_pos _)]
  rw [hq]
  unfold trunc
  simp
theorem U_pos : 0 < U := by
  unfold U
  exact Nat.two_pow_pos 1074
theorem V_two63 : V 4890909195324358656 = 9223372036854775808 * U := by decide +kernel
theorem trunc_in {f : Nat} (h1 : val f < 9223372036854775808 * (U : Int)) (h2 : -(9223372036854775808 * (U : Int)) ≤ val f) : -9223372036854775808 ≤ trunc f ∧ trunc f ≤ 9223372036854775807 := by
  have hU := U_pos
  unfold trunc
  unfold val at h1 h2
  cases hs : sg f
  · rw [hs, if_neg (by decide)] at h1 h2
    rw [if_neg (by decide)]
    generalize V (rg f) = v at *
    generalize U = u at *
    have h3 : v < u * 9223372036854775808 := by omega
    have h4 := Nat.div_lt_of_lt_mul h3
    generalize v / u = q at *
    omega
  · rw [hs, if_pos rfl] at h1 h2
    rw [if_pos rfl]
    generalize V (rg f) = v at *
    generalize U = u at *
    have h3 : v < u * 9223372036854775809 := by omega
    have h4 := Nat.div_lt_of_lt_mul h3
    generalize v / u = q at *
    omega
/-- A real that is neither 2^63 or more nor less than -2^63 is a whole number of 64 bits, cut towards nought. -/
theorem int_of {f : Nat} (h : rg f < infR) (h1 : fge f 4890909195324358656 = false) (h2 : flt f 14114281232179134464 = false) : fintv f = some (trunc f) ∧ -9223372036854775808 ≤ trunc f ∧ trunc f ≤ 9223372036854775807 := by
  have a1 : rg 4890909195324358656 < infR := by decide
  have a2 : rg 14114281232179134464 < infR := by decide
  rw [fge_fin h a1] at h1
  rw [flt_fin h a2] at h2
  have h1 := of_decide_eq_false h1
  have h2 := of_decide_eq_false h2
  have b1 : val 4890909195324358656 = 9223372036854775808 * (U : Int) := by
    unfold val
    rw [show sg 4890909195324358656 = false by decide, show rg 4890909195324358656 = 4890909195324358656 by decide, V_two63]
    simp
  have b2 : val 14114281232179134464 = -(9223372036854775808 * (U : Int)) := by
    unfold val
    rw [show sg 14114281232179134464 = true by decide, show rg 14114281232179134464 = 4890909195324358656 by decide, V_two63]
    simp
  rw [b1] at h1
  rw [b2] at h2
  have hb := trunc_in (f := f) (by omega) (by omega)
  refine ⟨?_, hb⟩
  unfold fintv
  simp only [toInt_fin h]
  have m1 : IntKind.i64.min = -9223372036854775808 := by decide +kernel
  have m2 : IntKind.i64.max = 9223372036854775807 := by decide +kernel
  rw [m1, m2, if_pos hb]
theorem cut_le (neg : Bool) (n drop : Nat) (h : drop ≤ n.log2 + 2) : Ieee.Toward.even.cut neg n drop ≤ n / 2 ^ drop + 1 := by
  unfold Ieee.Toward.cut
  simp only []
  rw [Nat.min_eq_left h, Nat.shiftLeft_eq, Nat.one_mul]
  have : ∀ b : Bool, b.toNat ≤ 1 := by decide
  exact Nat.add_le_add_left (this _) _
/-- A whole number of 64 bits is a finite real. -/
theorem real_of {n : Int} (h1 : -9223372036854775808 ≤ n) (h2 : n ≤ 9223372036854775807) : rg (freal n) < infR := by
  unfold freal FloatKind.nearest FloatKind.encode
  rw [show FloatKind.f64.format = Ieee.double from rfl]
  unfold Ieee.Format.write
  simp only []
  generalize hm : n.natAbs = mag
  have hm2 : mag ≤ 9223372036854775808 := by omega
  unfold Ieee.Format.nearest
  by_cases h0 : mag = 0
  · rw [if_pos h0, (word_rg _ (by decide)).1]; decide
  · rw [if_neg h0, e_lp, e_fb, e_bin, e_inf]
    have hlog : mag.log2 ≤ 63 := by
      have : mag.log2 < 64 := (Nat.log2_lt h0).2 (by have : (2 : Nat) ^ 64 = 18446744073709551616 := by decide
                                                     omega)
      omega
    have hself := Nat.lt_log2_self (n := mag)
    simp only []
    have hlast : max ((0 : Int) + (mag.log2 : Int) - (52 : Nat)) (-1074) = (mag.log2 : Int) - 52 := by omega
    rw [hlast]
    have hk : Ieee.Toward.even.cut (decide (n < 0)) (mag <<< ((0 : Int) - ((mag.log2 : Int) - 52)).toNat) (((mag.log2 : Int) - 52) - 0).toNat ≤ 9007199254740992 := by
      rcases Nat.le_total 52 mag.log2 with hl | hl
      · have e1 : ((0 : Int) - ((mag.log2 : Int) - 52)).toNat = 0 := by omega
        have e2 : (((mag.log2 : Int) - 52) - 0).toNat = mag.log2 - 52 := by omega
        rw [e1, e2, Nat.shiftLeft_zero]
        refine Nat.le_trans (cut_le _ _ _ (by omega)) ?_
        have : mag / 2 ^ (mag.log2 - 52) < 9007199254740992 := by
          refine Nat.div_lt_of_lt_mul ?_
          have : 2 ^ (mag.log2 + 1) = 2 ^ (mag.log2 - 52) * 9007199254740992 := by
            rw [show (9007199254740992 : Nat) = 2 ^ 53 by decide, ← Nat.pow_add]; congr 1; omega
          omega
        omega
      · have e1 : ((0 : Int) - ((mag.log2 : Int) - 52)).toNat = 52 - mag.log2 := by omega
        have e2 : (((mag.log2 : Int) - 52) - 0).toNat = 0 := by omega
        rw [e1, e2, cut_none, Nat.shiftLeft_eq]
        have : 2 ^ (mag.log2 + 1) * 2 ^ (52 - mag.log2) = 9007199254740992 := by
          rw [show (9007199254740992 : Nat) = 2 ^ 53 by decide, ← Nat.pow_add]; congr 1; omega
        have := Nat.mul_lt_mul_of_pos_right hself (Nat.two_pow_pos (52 - mag.log2))
        omega
    generalize Ieee.Toward.even.cut (decide (n < 0)) (mag <<< ((0 : Int) - ((mag.log2 : Int) - 52)).toNat) (((mag.log2 : Int) - 52) - 0).toNat = kept at hk
    have ht : ((mag.log2 : Int) - 52 - -1074).toNat ≤ 1085 := by omega
    have hr : min (((mag.log2 : Int) - 52 - -1074).toNat * 4503599627370496 + kept) 9218868437227405312 < infR := by
      refine Nat.lt_of_le_of_lt (Nat.min_le_left _ _) ?_
      have := Nat.mul_le_mul_right 4503599627370496 ht
      unfold infR
      omega
    rw [(word_rg _ (Nat.lt_trans hr (by decide))).1]
    exact hr
theorem feq_zero (r : Nat) : feq r 0 = decide (rg r = 0) := by
  rcases Nat.lt_trichotomy (rg r) infR with h | h | h
  · rw [feq_fin h rg_zero, val_zero]
    exact decide_eq_decide.2 val_eq_zero
  · rw [decide_eq_false (by rw [h]; decide)]
    unfold feq
    rw [show FloatKind.f64.format = Ieee.double from rfl]
    unfold Ieee.Format.order
    obtain ⟨m, x, h4, _⟩ := read_fin rg_zero
    rw [read_inf h, h4]
    cases sg r <;> rfl
  · rw [decide_eq_false (by intro k; rw [k] at h; revert h; decide)]
    unfold feq
    rw [show FloatKind.f64.format = Ieee.double from rfl, order_nan (.inl h)]
    rfl
/-- The difference of a real and itself: nought, if the real is finite; else none, or no number. -/
theorem self_sub (r : Nat) : (rg r < infR ∧ fok .sub r r = true ∧ feq (fval .sub r r) 0 = true) ∨ (infR ≤ rg r ∧ fok .sub r r = false) := by
  rcases Nat.lt_or_ge (rg r) infR with h | h
  · left
    obtain ⟨d, h1, h2, h3, h4⟩ := sub_fin h h
    refine ⟨h, by unfold fok; rw [h1]; rfl, ?_⟩
    have : fval .sub r r = d := by unfold fval; rw [h1]; rfl
    rw [this, feq_zero, decide_eq_true (h3.2 rfl)]
  · right
    refine ⟨h, ?_⟩
    unfold fok fbits
    simp only []
    rw [show FloatKind.f64.format = Ieee.double from rfl]
    unfold Ieee.Format.sub
    rcases Nat.lt_or_ge infR (rg r) with h1 | h1
    · obtain ⟨t, e⟩ := read_nan h1
      rw [e]; rfl
    · rw [read_inf (show rg r = infR by omega)]
      cases sg r <;> rfl
/-- One divided by a nought: infinite, with the nought's sign. -/
theorem one_div {z : Nat} (h : rg z = 0) : ∃ r, fbits .quo 4607182418800017408 z = some r ∧ rg r = infR ∧ sg r = sg z := by
  have h1 : Ieee.double.read 4607182418800017408 = .number false 4503599627370496 (-52) := by decide +kernel
  have hz : rg z < infR := by rw [h]; decide
  obtain ⟨m, e, h2, v2⟩ := read_fin hz
  rw [h, V_zero] at v2
  have hm : m = 0 := by
    rcases Nat.mul_eq_zero.1 v2 with h | h
    · exact h
    · have := Nat.two_pow_pos e; omega
  subst hm
  unfold fbits
  simp only []
  rw [show FloatKind.f64.format = Ieee.double from rfl]
  unfold Ieee.Format.div
  rw [h1, h2]
  simp only [Ieee.Datum.quotient]
  rw [if_pos trivial, if_neg (by decide)]
  refine ⟨_, rfl, ?_⟩
  unfold Ieee.Format.write
  simp only []
  rw [e_inf]
  have := word_rg (false ^^ sg z) (r := 9218868437227405312) (by decide)
  exact ⟨this.1, by rw [this.2]; simp⟩
end Go.Proofs.Ytkedejphebfneaa.F
end
section
/- colonnaderef18.May, its walk by hand: where a Real is infinite, its difference to itself is no number, of whatever bits. -/
namespace Go.Proofs.Ytkedejphebfneaa.Pa
open Go.Proofs.Ytkedejphebfneaa.L Go.Proofs.Ytkedejphebfneaa.F Go.RowKit Go.Proofs.YtkedejphebfneaaW.PrintWords Go.Proofs.YtkedejphebfneaaW.PrintLast Go.Proofs.YtkedejphebfneaaW.PrintMore
attribute [local go_sem] run_store_float cmp_feq cmp_fne cmp_flt cmp_fle cmp_fgt cmp_fge un_fneg equalIn_feq run_fop run_fint run_freal cmp_sgt
set_option linter.unusedVariables false
set_option linter.unusedSimpArgs false
theorem nan_word (t : Nat) : ((t % 2) * 2 ^ 63 + 0x7ff0000000000000 + 1 + (t / 2) % (2 ^ 52 - 1)) % 9223372036854775808 ≠ 0 := by
  have h1 : (t / 2) % (2 ^ 52 - 1) < 2 ^ 52 - 1 := Nat.mod_lt _ (by decide)
  generalize (t / 2) % (2 ^ 52 - 1) = q at h1
  generalize t % 2 = s
  have e : s * 2 ^ 63 + 0x7ff0000000000000 + 1 + q = (0x7ff0000000000000 + 1 + q) + s * 9223372036854775808 := by
    rw [show (2 : Nat) ^ 63 = 9223372036854775808 by decide]
    omega
  rw [e, Nat.add_mul_mod_self_right]
  have h2 : q < 4503599627370495 := h1
  rw [Nat.mod_eq_of_lt (by omega)]
  omega
theorem run_nan_sub (P : Program) (w : World) (t : TypeId) (a b : Nat) (h : fok .sub a b = false) : ∃ c, (binOp .sub t (.float .f64 a) (.float .f64 b)).run P w = .ok (.float .f64 c) w.drew ∧ feq c 0 = false := by
  unfold fok fbits at h
  simp only [Option.isSome_eq_false_iff, Option.isNone_iff_eq_none] at h
  refine ⟨(Question.nanBits .f64 a b).cut (w.tape w.drawn (Question.nanBits .f64 a b)), ?_, ?_⟩
  · simp [binOp, Op.floatArith, h, choose]
    rfl
  · rw [feq_zero]
    exact decide_eq_false (nan_word _)
/-- A zero without a sign. -/
def zeroR (r : Nat) : Bool := feq r 0 && fgt (fval .quo 4607182418800017408 r) 0
/-- May a value be, by the document. -/
def mayR (k i : Int) (r : Nat) (s : ByteArray) : Bool :=
  if k = 0 then (i == 0) && (s.toList.isEmpty) && zeroR r
  else if k = 1 then (s.toList.isEmpty) && zeroR r
  else if k = 2 then (i == 0) && zeroR r && decide (s.size ≤ 65535)
  else if k = 3 then (i == 0) && (s.toList.isEmpty) && fok .sub r r && (!(feq r 0) || zeroR r)
  else false
def colonnaderef18_May.f (a0 a1 : Int) (a2 : Nat) (a3 : ByteArray) : Option Bool := some (mayR a0 a1 a2 a3)
theorem quo_ok {r : Nat} (h : feq r 0 = true) : fok .quo 4607182418800017408 r = true := by
  rw [feq_zero] at h
  obtain ⟨d, h1, _⟩ := one_div (of_decide_eq_true h)
  unfold fok
  rw [h1]; rfl
theorem ret_bool {a b : Bool} (h : a = b) : Ending.returned (.bool a) = .returned (.bool b) := by rw [h]
set_option maxHeartbeats 8000000 in
theorem colonnaderef18_May.calls (a0_0 : Int) (a0_1 : Int) (a0_2 : Nat) (a0_3 : ByteArray) (r : Bool) (w : World) (h : colonnaderef18_May.f a0_0 a0_1 a0_2 a0_3 = some r) :
    Calls Try.prog 50 #[.agg #[.int .i64 a0_0, .int .i64 a0_1, .float .f64 a0_2, .string a0_3]] w fun e w' => e = .returned (.bool r) ∧ Below w.heap.size w w' := by
  obtain rfl : mayR a0_0 a0_1 a0_2 a0_3 = r := Option.some.inj h
  clear h
  have hq : feq a0_2 0 = true → fok .quo 4607182418800017408 a0_2 = true := quo_ok
  by_cases hz : feq a0_2 0 = true
  · have hz1 := hq hz
    have hs : fok .sub a0_2 a0_2 = true ∧ feq (fval .sub a0_2 a0_2) 0 = true := by
      rcases self_sub a0_2 with h | h
      · exact h.2
      · rw [feq_zero] at hz
        have := of_decide_eq_true hz
        have h3 : infR ≤ 0 := this ▸ h.1
        exact absurd h3 (by decide)
    obtain ⟨hs1, hs2⟩ := hs
    have M : mayR a0_0 a0_1 a0_2 a0_3 = (if a0_0 = 0 then (a0_1 == 0) && (a0_3.toList.isEmpty) && fgt (fval .quo 4607182418800017408 a0_2) 0 else if a0_0 = 1 then (a0_3.toList.isEmpty) && fgt (fval .quo 4607182418800017408 a0_2) 0 else if a0_0 = 2 then (a0_1 == 0) && fgt (fval .quo 4607182418800017408 a0_2) 0 && decide (a0_3.size ≤ 65535) else if a0_0 = 3 then (a0_1 == 0) && (a0_3.toList.isEmpty) && fgt (fval .quo 4607182418800017408 a0_2) 0 else false) := by
      unfold mayR zeroR; rw [hz, hs1]; simp
    rw [M]
    clear M hq
    go_enter Try.func50, Try.ntmps50
    go_wp2_with (fail)
    all_goals (go_ret; exact ⟨ret_bool (by simp_all <;> omega), by first | exact below_alloc (Below.refl _ _) _ | exact below_drew (below_alloc (Below.refl _ _) _)⟩)
  · replace hz : feq a0_2 0 = false := by simpa using hz
    rcases self_sub a0_2 with ⟨_, hs1, hs2⟩ | ⟨_, hs1⟩
    · have M : mayR a0_0 a0_1 a0_2 a0_3 = (if a0_0 = 3 then (a0_1 == 0) && (a0_3.toList.isEmpty) else false) := by
        unfold mayR zeroR; rw [hz, hs1]
        by_cases h3 : a0_0 = 3
        · subst h3; simp
        · simp [h3]
      rw [M]
      clear M hq
      go_enter Try.func50, Try.ntmps50
      go_wp2_with (fail)
      all_goals (go_ret; exact ⟨ret_bool (by simp_all <;> omega), by first | exact below_alloc (Below.refl _ _) _ | exact below_drew (below_alloc (Below.refl _ _) _)⟩)
    · have M : mayR a0_0 a0_1 a0_2 a0_3 = false := by
        unfold mayR zeroR; rw [hz, hs1]; simp
      rw [M]
      clear M hq
      by_cases h1 : a0_1 = 0
      · subst h1
        obtain ⟨cn, hrun, hcn⟩ := run_nan_sub Try.prog (w.alloc (.cells #[.int .i64 a0_0, .int .i64 0, .float .f64 a0_2, .string a0_3] 28)) 26 a0_2 a0_2 hs1
        go_enter Try.func50, Try.ntmps50
        go_wp2_with (fail)
        all_goals (go_ret; exact ⟨ret_bool (by simp_all <;> omega), by first | exact below_alloc (Below.refl _ _) _ | exact below_drew (below_alloc (Below.refl _ _) _)⟩)
      · have h1b : (a0_1 == 0) = false := by simpa using h1
        go_enter Try.func50, Try.ntmps50
        go_wp2_with (fail)
        all_goals (go_ret; exact ⟨ret_bool (by simp_all <;> omega), by first | exact below_alloc (Below.refl _ _) _ | exact below_drew (below_alloc (Below.refl _ _) _)⟩)
end Go.Proofs.Ytkedejphebfneaa.Pa
end
section
-- Written by xprint.py, a program of this session, over the kit's print. Not trusted: Lean checks it.
namespace Go.Proofs.Ytkedejphebfneaa.Pa
open Go.RowKit Go.Proofs.YtkedejphebfneaaW.PrintWords Go.Proofs.YtkedejphebfneaaW.PrintLast Go.Proofs.YtkedejphebfneaaW.PrintMore
attribute [local go_sem] max2_int min2_int max_two min_two max_three min_three max_four min_four   -- for this text's walks alone
attribute [local go_sem] run_store_float cmp_feq cmp_fne cmp_flt cmp_fle cmp_fgt cmp_fge un_fneg equalIn_feq run_fop run_fint run_freal cmp_sgt ext_bits ext_frombits ext_cmpb
set_option linter.unusedVariables false
set_option linter.unusedSimpArgs false

/-! ### colonnaderef18_class: function 77 -/
def colonnaderef18_class.f (a0_0 : Int) (a0_1 : Int) (a0_2 : Nat) (a0_3 : ByteArray) : Option (Int) := (colonnaderef18_May.f a0_0 a0_1 a0_2 a0_3).bind fun t257 => (if t257 = true then (if a0_0 = 0 then (some 1) else (if a0_0 = 2 then (some 3) else (some 2))) else (some 0))
set_option maxHeartbeats 8000000 in
set_option maxRecDepth 100000 in
theorem colonnaderef18_class.calls (a0_0 : Int) (a0_1 : Int) (a0_2 : Nat) (a0_3 : ByteArray) (r : Int) (w : World) (h : colonnaderef18_class.f a0_0 a0_1 a0_2 a0_3 = some r) :
    Calls Try.prog 77 #[.agg #[.int .i64 a0_0, .int .i64 a0_1, .float .f64 a0_2, .string a0_3]] w fun e w' => e = .returned (.int .i64 r) ∧ Below w.heap.size w w' := by
  have hu28 := Try.underlying28
  have HB := Aside0.mk (Below.refl w.heap.size w)
  have H : ((colonnaderef18_May.f a0_0 a0_1 a0_2 a0_3).bind fun t257 => (if t257 = true then (if a0_0 = 0 then (some 1) else (if a0_0 = 2 then (some 3) else (some 2))) else (some 0))) = some r := h
  clear h
  replace H := Option.bind_eq_some_iff.mp H
  obtain ⟨t257, A20, H⟩ := H
  replace H : (if t257 = true then (if a0_0 = 0 then (some 1) else (if a0_0 = 2 then (some 3) else (some 2))) else (some 0)) = some r := H
  have A2 := Aside0.mk A20
  clear A20
  by_cases c3 : t257 = true
  · subst c3
    have H1 : (if a0_0 = 0 then (some 1) else (if a0_0 = 2 then (some 3) else (some 2))) = some r := by rw [if_pos rfl] at H; exact H
    clear H
    have H := H1
    clear H1
    by_cases c4 : a0_0 = 0
    · rw [if_pos c4] at H
      have c4b0 : (a0_0 == 0) = true := beq_iff_eq.mpr c4
      have c4b1 : (a0_0 != 0) = false := bne_eq_false_iff_eq.mpr c4
      clear c4
      obtain rfl := Option.some.inj H
      go_enter Try.func77, Try.ntmps77
      go_wp2_with (first | ((with_reducible refine gate_dst (N := 1) rfl ?_); refine box_event ?hg (N := 1) ?hd (cs := #[.int .i64 a0_0, .int .i64 a0_1, .float .f64 a0_2, .string a0_3]) (t := 28) ?hr ?_; (case hd => rfl); (case hg => rfl); (case hr => first | (go_simp; done) | (go_simp; rfl)); intro gb256 hg w5 hbox hb; have n0_ := Aside0.mk (below_step (by repeat (first | (with_reducible first | exact HB.out | apply below_alloc | apply pw_below_drewN | apply below_drew1) | exact HB.out)) hb); have n1_ := Aside0.mk (hbox); have n2_ := Aside0.mk ((by rw [hg]; exact (below_size (by repeat (first | (with_reducible first | exact HB.out | apply below_alloc | apply pw_below_drewN | apply below_drew1) | exact HB.out))) : w.heap.size ≤ gb256)); have n3_ := Aside0.mk ((by rw [hg]; exact (below_size (by repeat (first | (with_reducible first | exact HB.out | apply below_alloc | apply pw_below_drewN | apply below_drew1) | exact HB.out))) : w.heap.size ≤ gb256)); clear HB; have HB := n0_; have BK256 := n1_; have GW256 := n2_; have GE256 := n3_; clear n0_ n1_ n2_ n3_; clear hb hbox hg; obtain ⟨hcz6_0, hcz6_1, hcz6_2, hcz6_3⟩ := cells_4 BK256.out; obtain ⟨hfz6_0, hfz6_1, hfz6_2, hfz6_3⟩ := froz_4 BK256.out) | ((with_reducible refine gate_callee (f := 50) rfl ?_); refine goesL_ (some 4) rfl rfl Try.func50 (by kernel_rfl) rfl #[.agg #[.int .i64 a0_0, .int .i64 a0_1, .float .f64 a0_2, .string a0_3]] rfl (by (try simp only [List.map_toArray, List.map_cons, List.map_nil]); first | done | rfl | (simp only [List.length_drop, List.length_take]; rfl)) ?_; (with_reducible refine (colonnaderef18_May.calls a0_0 a0_1 a0_2 a0_3 true _ A2.out).mono ?_); rintro e w7 ⟨rfl, hb⟩; refine ⟨_, rfl, ?_⟩; have n0_ := blkS BK256 hb; have n1_ := Aside0.mk (below_step (by repeat (first | (with_reducible first | exact HB.out | apply below_alloc | apply pw_below_drewN | apply below_drew1 | refine below_set ?_ GE256.out) | exact HB.out)) hb); clear BK256; clear HB; have BK256 := n0_; have HB := n1_; clear n0_ n1_; (try clear hb); (try clear hb2); (try clear hk); (try clear hi); obtain ⟨hcz8_0, hcz8_1, hcz8_2, hcz8_3⟩ := cells_4 BK256.out; obtain ⟨hfz8_0, hfz8_1, hfz8_2, hfz8_3⟩ := froz_4 BK256.out))
      go_ret
      exact ⟨by first | rfl | (simp [errW_none, errW_some] <;> rfl) | (simp [*, errW_none, errW_some] <;> rfl), by repeat (first | (with_reducible first | exact HB.out | apply below_alloc | apply pw_below_drewN | apply below_drew1 | refine below_set ?_ GE256.out) | exact HB.out)⟩
    · rw [if_neg c4] at H
      have c4b0 : (a0_0 == 0) = false := beq_eq_false_iff_ne.mpr c4
      have c4b1 : (a0_0 != 0) = true := bne_iff_ne.mpr c4
      by_cases c9 : a0_0 = 2
      · rw [if_pos c9] at H
        have c9b0 : (a0_0 == 2) = true := beq_iff_eq.mpr c9
        have c9b1 : (a0_0 != 2) = false := bne_eq_false_iff_eq.mpr c9
        clear c9
        obtain rfl := Option.some.inj H
        go_enter Try.func77, Try.ntmps77
        go_wp2_with (first | ((with_reducible refine gate_dst (N := 1) rfl ?_); refine box_event ?hg (N := 1) ?hd (cs := #[.int .i64 a0_0, .int .i64 a0_1, .float .f64 a0_2, .string a0_3]) (t := 28) ?hr ?_; (case hd => rfl); (case hg => rfl); (case hr => first | (go_simp; done) | (go_simp; rfl)); intro gb256 hg w10 hbox hb; have n0_ := Aside0.mk (below_step (by repeat (first | (with_reducible first | exact HB.out | apply below_alloc | apply pw_below_drewN | apply below_drew1) | exact HB.out)) hb); have n1_ := Aside0.mk (hbox); have n2_ := Aside0.mk ((by rw [hg]; exact (below_size (by repeat (first | (with_reducible first | exact HB.out | apply below_alloc | apply pw_below_drewN | apply below_drew1) | exact HB.out))) : w.heap.size ≤ gb256)); have n3_ := Aside0.mk ((by rw [hg]; exact (below_size (by repeat (first | (with_reducible first | exact HB.out | apply below_alloc | apply pw_below_drewN | apply below_drew1) | exact HB.out))) : w.heap.size ≤ gb256)); clear HB; have HB := n0_; have BK256 := n1_; have GW256 := n2_; have GE256 := n3_; clear n0_ n1_ n2_ n3_; clear hb hbox hg; obtain ⟨hcz11_0, hcz11_1, hcz11_2, hcz11_3⟩ := cells_4 BK256.out; obtain ⟨hfz11_0, hfz11_1, hfz11_2, hfz11_3⟩ := froz_4 BK256.out) | ((with_reducible refine gate_callee (f := 50) rfl ?_); refine goesL_ (some 4) rfl rfl Try.func50 (by kernel_rfl) rfl #[.agg #[.int .i64 a0_0, .int .i64 a0_1, .float .f64 a0_2, .string a0_3]] rfl (by (try simp only [List.map_toArray, List.map_cons, List.map_nil]); first | done | rfl | (simp only [List.length_drop, List.length_take]; rfl)) ?_; (with_reducible refine (colonnaderef18_May.calls a0_0 a0_1 a0_2 a0_3 true _ A2.out).mono ?_); rintro e w12 ⟨rfl, hb⟩; refine ⟨_, rfl, ?_⟩; have n0_ := blkS BK256 hb; have n1_ := Aside0.mk (below_step (by repeat (first | (with_reducible first | exact HB.out | apply below_alloc | apply pw_below_drewN | apply below_drew1 | refine below_set ?_ GE256.out) | exact HB.out)) hb); clear BK256; clear HB; have BK256 := n0_; have HB := n1_; clear n0_ n1_; (try clear hb); (try clear hb2); (try clear hk); (try clear hi); obtain ⟨hcz13_0, hcz13_1, hcz13_2, hcz13_3⟩ := cells_4 BK256.out; obtain ⟨hfz13_0, hfz13_1, hfz13_2, hfz13_3⟩ := froz_4 BK256.out))
        go_ret
        exact ⟨by first | rfl | (simp [errW_none, errW_some] <;> rfl) | (simp [*, errW_none, errW_some] <;> rfl), by repeat (first | (with_reducible first | exact HB.out | apply below_alloc | apply pw_below_drewN | apply below_drew1 | refine below_set ?_ GE256.out) | exact HB.out)⟩
      · rw [if_neg c9] at H
        have c9b0 : (a0_0 == 2) = false := beq_eq_false_iff_ne.mpr c9
        have c9b1 : (a0_0 != 2) = true := bne_iff_ne.mpr c9
        obtain rfl := Option.some.inj H
        go_enter Try.func77, Try.ntmps77
        go_wp2_with (first | ((with_reducible refine gate_dst (N := 1) rfl ?_); refine box_event ?hg (N := 1) ?hd (cs := #[.int .i64 a0_0, .int .i64 a0_1, .float .f64 a0_2, .string a0_3]) (t := 28) ?hr ?_; (case hd => rfl); (case hg => rfl); (case hr => first | (go_simp; done) | (go_simp; rfl)); intro gb256 hg w14 hbox hb; have n0_ := Aside0.mk (below_step (by repeat (first | (with_reducible first | exact HB.out | apply below_alloc | apply pw_below_drewN | apply below_drew1) | exact HB.out)) hb); have n1_ := Aside0.mk (hbox); have n2_ := Aside0.mk ((by rw [hg]; exact (below_size (by repeat (first | (with_reducible first | exact HB.out | apply below_alloc | apply pw_below_drewN | apply below_drew1) | exact HB.out))) : w.heap.size ≤ gb256)); have n3_ := Aside0.mk ((by rw [hg]; exact (below_size (by repeat (first | (with_reducible first | exact HB.out | apply below_alloc | apply pw_below_drewN | apply below_drew1) | exact HB.out))) : w.heap.size ≤ gb256)); clear HB; have HB := n0_; have BK256 := n1_; have GW256 := n2_; have GE256 := n3_; clear n0_ n1_ n2_ n3_; clear hb hbox hg; obtain ⟨hcz15_0, hcz15_1, hcz15_2, hcz15_3⟩ := cells_4 BK256.out; obtain ⟨hfz15_0, hfz15_1, hfz15_2, hfz15_3⟩ := froz_4 BK256.out) | ((with_reducible refine gate_callee (f := 50) rfl ?_); refine goesL_ (some 4) rfl rfl Try.func50 (by kernel_rfl) rfl #[.agg #[.int .i64 a0_0, .int .i64 a0_1, .float .f64 a0_2, .string a0_3]] rfl (by (try simp only [List.map_toArray, List.map_cons, List.map_nil]); first | done | rfl | (simp only [List.length_drop, List.length_take]; rfl)) ?_; (with_reducible refine (colonnaderef18_May.calls a0_0 a0_1 a0_2 a0_3 true _ A2.out).mono ?_); rintro e w16 ⟨rfl, hb⟩; refine ⟨_, rfl, ?_⟩; have n0_ := blkS BK256 hb; have n1_ := Aside0.mk (below_step (by repeat (first | (with_reducible first | exact HB.out | apply below_alloc | apply pw_below_drewN | apply below_drew1 | refine below_set ?_ GE256.out) | exact HB.out)) hb); clear BK256; clear HB; have BK256 := n0_; have HB := n1_; clear n0_ n1_; (try clear hb); (try clear hb2); (try clear hk); (try clear hi); obtain ⟨hcz17_0, hcz17_1, hcz17_2, hcz17_3⟩ := cells_4 BK256.out; obtain ⟨hfz17_0, hfz17_1, hfz17_2, hfz17_3⟩ := froz_4 BK256.out))
        go_ret
        exact ⟨by first | rfl | (simp [errW_none, errW_some] <;> rfl) | (simp [*, errW_none, errW_some] <;> rfl), by repeat (first | (with_reducible first | exact HB.out | apply below_alloc | apply pw_below_drewN | apply below_drew1 | refine below_set ?_ GE256.out) | exact HB.out)⟩
  · replace c3 := Bool.eq_false_iff.mpr c3
    subst c3
    have H1 : (some 0) = some r := by rw [if_neg (show ¬ (false = true) by decide)] at H; exact H
    clear H
    have H := H1
    clear H1
    obtain rfl := Option.some.inj H
    go_enter Try.func77, Try.ntmps77
    go_wp2_with (first | ((with_reducible refine gate_dst (N := 1) rfl ?_); refine box_event ?hg (N := 1) ?hd (cs := #[.int .i64 a0_0, .int .i64 a0_1, .float .f64 a0_2, .string a0_3]) (t := 28) ?hr ?_; (case hd => rfl); (case hg => rfl); (case hr => first | (go_simp; done) | (go_simp; rfl)); intro gb256 hg w18 hbox hb; have n0_ := Aside0.mk (below_step (by repeat (first | (with_reducible first | exact HB.out | apply below_alloc | apply pw_below_drewN | apply below_drew1) | exact HB.out)) hb); have n1_ := Aside0.mk (hbox); have n2_ := Aside0.mk ((by rw [hg]; exact (below_size (by repeat (first | (with_reducible first | exact HB.out | apply below_alloc | apply pw_below_drewN | apply below_drew1) | exact HB.out))) : w.heap.size ≤ gb256)); have n3_ := Aside0.mk ((by rw [hg]; exact (below_size (by repeat (first | (with_reducible first | exact HB.out | apply below_alloc | apply pw_below_drewN | apply below_drew1) | exact HB.out))) : w.heap.size ≤ gb256)); clear HB; have HB := n0_; have BK256 := n1_; have GW256 := n2_; have GE256 := n3_; clear n0_ n1_ n2_ n3_; clear hb hbox hg; obtain ⟨hcz19_0, hcz19_1, hcz19_2, hcz19_3⟩ := cells_4 BK256.out; obtain ⟨hfz19_0, hfz19_1, hfz19_2, hfz19_3⟩ := froz_4 BK256.out) | ((with_reducible refine gate_callee (f := 50) rfl ?_); refine goesL_ (some 4) rfl rfl Try.func50 (by kernel_rfl) rfl #[.agg #[.int .i64 a0_0, .int .i64 a0_1, .float .f64 a0_2, .string a0_3]] rfl (by (try simp only [List.map_toArray, List.map_cons, List.map_nil]); first | done | rfl | (simp only [List.length_drop, List.length_take]; rfl)) ?_; (with_reducible refine (colonnaderef18_May.calls a0_0 a0_1 a0_2 a0_3 false _ A2.out).mono ?_); rintro e w20 ⟨rfl, hb⟩; refine ⟨_, rfl, ?_⟩; have n0_ := blkS BK256 hb; have n1_ := Aside0.mk (below_step (by repeat (first | (with_reducible first | exact HB.out | apply below_alloc | apply pw_below_drewN | apply below_drew1 | refine below_set ?_ GE256.out) | exact HB.out)) hb); clear BK256; clear HB; have BK256 := n0_; have HB := n1_; clear n0_ n1_; (try clear hb); (try clear hb2); (try clear hk); (try clear hi)))
    go_ret
    exact ⟨by first | rfl | (simp [errW_none, errW_some] <;> rfl) | (simp [*, errW_none, errW_some] <;> rfl), by repeat (first | (with_reducible first | exact HB.out | apply below_alloc | apply pw_below_drewN | apply below_drew1 | refine below_set ?_ GE256.out) | exact HB.out)⟩

end Go.Proofs.Ytkedejphebfneaa.Pa
end
section
-- Written by xprint.py, a program of this session, over the kit's print. Not trusted: Lean checks it.
namespace Go.Proofs.Ytkedejphebfneaa.Pa
open Go.RowKit Go.Proofs.YtkedejphebfneaaW.PrintWords Go.Proofs.YtkedejphebfneaaW.PrintLast Go.Proofs.YtkedejphebfneaaW.PrintMore
attribute [local go_sem] max2_int min2_int max_two min_two max_three min_three max_four min_four   -- for this text's walks alone
attribute [local go_sem] run_store_float cmp_feq cmp_fne cmp_flt cmp_fle cmp_fgt cmp_fge un_fneg equalIn_feq run_fop run_fint run_freal cmp_sgt ext_bits ext_frombits ext_cmpb
set_option linter.unusedVariables false
set_option linter.unusedSimpArgs false

/-! ### colonnaderef18_sign: function 78 -/
def colonnaderef18_sign.f (a0 : Bool) (a1 : Bool) : Option (Int) := if a0 = true then (some (-1)) else (if a1 = true then (some 1) else (some 0))
set_option maxHeartbeats 8000000 in
set_option maxRecDepth 100000 in
theorem colonnaderef18_sign.calls (a0 : Bool) (a1 : Bool) (r : Int) (w : World) (h : colonnaderef18_sign.f a0 a1 = some r) :
    Calls Try.prog 78 #[.bool a0, .bool a1] w fun e w' => e = .returned (.int .i64 r) ∧ Drawn0 w w' := by
  have H : (if a0 = true then (some (-1)) else (if a1 = true then (some 1) else (some 0))) = some r := h
  clear h
  by_cases c3 : a0 = true
  · subst c3
    have H1 : (some (-1)) = some r := by rw [if_pos rfl] at H; exact H
    clear H
    have H := H1
    clear H1
    obtain rfl := Option.some.inj H
    go_enter Try.func78, Try.ntmps78
    go_wp2
    go_ret
    exact ⟨by first | rfl | (simp; done) | (simp [*]; done), by repeat (first | exact Drawn0.refl _ | apply Drawn0.step)⟩
  · replace c3 := Bool.eq_false_iff.mpr c3
    subst c3
    have H1 : (if a1 = true then (some 1) else (some 0)) = some r := by rw [if_neg (show ¬ (false = true) by decide)] at H; exact H
    clear H
    have H := H1
    clear H1
    by_cases c4 : a1 = true
    · subst c4
      have H1 : (some 1) = some r := by rw [if_pos rfl] at H; exact H
      clear H
      have H := H1
      clear H1
      obtain rfl := Option.some.inj H
      go_enter Try.func78, Try.ntmps78
      go_wp2
      go_ret
      exact ⟨by first | rfl | (simp; done) | (simp [*]; done), by repeat (first | exact Drawn0.refl _ | apply Drawn0.step)⟩
    · replace c4 := Bool.eq_false_iff.mpr c4
      subst c4
      have H1 : (some 0) = some r := by rw [if_neg (show ¬ (false = true) by decide)] at H; exact H
      clear H
      have H := H1
      clear H1
      obtain rfl := Option.some.inj H
      go_enter Try.func78, Try.ntmps78
      go_wp2
      go_ret
      exact ⟨by first | rfl | (simp; done) | (simp [*]; done), by repeat (first | exact Drawn0.refl _ | apply Drawn0.step)⟩

/-! ### colonnaderef18_mixed: function 79 -/
def colonnaderef18_mixed.f (a0 : Int) (a1 : Nat) : Option (Int) := if (fge a1 (4890909195324358656 : Nat)) = true then (some (-1)) else (if (flt a1 (14114281232179134464 : Nat)) = true then (some 1) else (if fintok a1 = true then (if a0 = (fint a1) then (if (fgt a1 (freal (fint a1))) = true then (some (-1)) else (if (flt a1 (freal (fint a1))) = true then (some 1) else (some (-1)))) else ((colonnaderef18_sign.f (decide (a0 < (fint a1))) true).bind fun t258 => (some t258))) else (none)))
set_option maxHeartbeats 8000000 in
set_option maxRecDepth 100000 in
theorem colonnaderef18_mixed.calls (a0 : Int) (a1 : Nat) (r : Int) (w : World) (h : colonnaderef18_mixed.f a0 a1 = some r) :
    Calls Try.prog 79 #[.int .i64 a0, .float .f64 a1] w fun e w' => e = .returned (.int .i64 r) ∧ Drawn0 w w' := by
  have H : (if (fge a1 (4890909195324358656 : Nat)) = true then (some (-1)) else (if (flt a1 (14114281232179134464 : Nat)) = true then (some 1) else (if fintok a1 = true then (if a0 = (fint a1) then (if (fgt a1 (freal (fint a1))) = true then (some (-1)) else (if (flt a1 (freal (fint a1))) = true then (some 1) else (some (-1)))) else ((colonnaderef18_sign.f (decide (a0 < (fint a1))) true).bind fun t258 => (some t258))) else (none)))) = some r := h
  clear h
  by_cases c3 : (fge a1 (4890909195324358656 : Nat)) = true
  · rw [if_pos c3] at H
    have c3b0 : (fge a1 (4890909195324358656 : Nat)) = true := c3
    clear c3
    obtain rfl := Option.some.inj H
    go_enter Try.func79, Try.ntmps79
    go_wp2
    go_ret
    exact ⟨by first | rfl | (simp; done) | (simp [*]; done), by repeat (first | exact Drawn0.refl _ | apply Drawn0.step)⟩
  · rw [if_neg c3] at H
    have c3b0 : (fge a1 (4890909195324358656 : Nat)) = false := by simpa using c3
    clear c3
    by_cases c4 : (flt a1 (14114281232179134464 : Nat)) = true
    · rw [if_pos c4] at H
      have c4b0 : (flt a1 (14114281232179134464 : Nat)) = true := c4
      clear c4
      obtain rfl := Option.some.inj H
      go_enter Try.func79, Try.ntmps79
      go_wp2
      go_ret
      exact ⟨by first | rfl | (simp; done) | (simp [*]; done), by repeat (first | exact Drawn0.refl _ | apply Drawn0.step)⟩
    · rw [if_neg c4] at H
      have c4b0 : (flt a1 (14114281232179134464 : Nat)) = false := by simpa using c4
      clear c4
      by_cases c5 : fintok a1 = true
      · rw [if_pos c5] at H
        have c5b0 := eq_true c5
        have c5b1 : decide (fintok a1 = true) = true := decide_eq_true c5
        clear c5
        by_cases c6 : a0 = (fint a1)
        · rw [if_pos c6] at H
          have c6b0 : (a0 == (fint a1)) = true := beq_iff_eq.mpr c6
          have c6b1 : (a0 != (fint a1)) = false := bne_eq_false_iff_eq.mpr c6
          clear c6
          by_cases c7 : (fgt a1 (freal (fint a1))) = true
          · rw [if_pos c7] at H
            have c7b0 : (fgt a1 (freal (fint a1))) = true := c7
            clear c7
            obtain rfl := Option.some.inj H
            go_enter Try.func79, Try.ntmps79
            go_wp2
            go_ret
            exact ⟨by first | rfl | (simp; done) | (simp [*]; done), by repeat (first | exact Drawn0.refl _ | apply Drawn0.step)⟩
          · rw [if_neg c7] at H
            have c7b0 : (fgt a1 (freal (fint a1))) = false := by simpa using c7
            clear c7
            by_cases c8 : (flt a1 (freal (fint a1))) = true
            · rw [if_pos c8] at H
              have c8b0 : (flt a1 (freal (fint a1))) = true := c8
              clear c8
              obtain rfl := Option.some.inj H
              go_enter Try.func79, Try.ntmps79
              go_wp2
              go_ret
              exact ⟨by first | rfl | (simp; done) | (simp [*]; done), by repeat (first | exact Drawn0.refl _ | apply Drawn0.step)⟩
            · rw [if_neg c8] at H
              have c8b0 : (flt a1 (freal (fint a1))) = false := by simpa using c8
              clear c8
              obtain rfl := Option.some.inj H
              go_enter Try.func79, Try.ntmps79
              go_wp2
              go_ret
              exact ⟨by first | rfl | (simp; done) | (simp [*]; done), by repeat (first | exact Drawn0.refl _ | apply Drawn0.step)⟩
        · rw [if_neg c6] at H
          have c6b0 : (a0 == (fint a1)) = false := beq_eq_false_iff_ne.mpr c6
          have c6b1 : (a0 != (fint a1)) = true := bne_iff_ne.mpr c6
          replace H := Option.bind_eq_some_iff.mp H
          obtain ⟨t258, A90, H⟩ := H
          replace H : (some t258) = some r := H
          have A9 := Aside0.mk A90
          clear A90
          obtain rfl := Option.some.inj H
          go_enter Try.func79, Try.ntmps79
          go_wp2_with (first | ((with_reducible refine gate_callee (f := 78) rfl ?_); refine goesL_ (some 18) rfl rfl Try.func78 (by kernel_rfl) rfl #[.bool (decide (a0 < (fint a1))), .bool true] rfl (by (try simp only [List.map_toArray, List.map_cons, List.map_nil]); first | done | rfl | (simp only [List.length_drop, List.length_take]; rfl)) ?_; (with_reducible refine (colonnaderef18_sign.calls (decide (a0 < (fint a1))) true t258 _ A9.out).mono ?_); rintro e w' ⟨rfl, ⟨nd, rfl⟩⟩; refine ⟨_, rfl, ?_⟩))
          go_ret
          exact ⟨by first | rfl | (simp; done) | (simp [*]; done), by repeat (first | exact Drawn0.refl _ | apply Drawn0.step)⟩
      · rw [if_neg c5] at H
        exact absurd H (by simp)

end Go.Proofs.Ytkedejphebfneaa.Pa
end
section
-- Written by xprint.py, a program of this session, over the kit's print. Not trusted: Lean checks it.
namespace Go.Proofs.Ytkedejphebfneaa.Pa
open Go.RowKit Go.Proofs.YtkedejphebfneaaW.PrintWords Go.Proofs.YtkedejphebfneaaW.PrintLast Go.Proofs.YtkedejphebfneaaW.PrintMore
attribute [local go_sem] max2_int min2_int max_two min_two max_three min_three max_four min_four   -- for this text's walks alone
attribute [local go_sem] run_store_float cmp_feq cmp_fne cmp_flt cmp_fle cmp_fgt cmp_fge un_fneg equalIn_feq run_fop run_fint run_freal cmp_sgt ext_bits ext_frombits ext_cmpb
set_option linter.unusedVariables false
set_option linter.unusedSimpArgs false

/-! ### colonnaderef18_Compare: function 54 -/
mutual
def colonnaderef18_Compare.j0 : Nat → Bool → Int → Int → Nat → ByteArray → Int → Int → Nat → ByteArray → Option (Int)
  | 0, _, _, _, _, _, _, _, _, _ => none
  | k + 1, x40, x260000, x260001, x260002, x260003, x261000, x261001, x261002, x261003 => if x40 = true then ((colonnaderef18_sign.f (decide (x260001 < x261001)) (decide (x260001 > x261001))).bind fun t265 => (some t265)) else (if x260000 = 3 then (colonnaderef18_Compare.j1 k (x261000 == 3) x260000 x260001 x260002 x260003 x261000 x261001 x261002 x261003) else (colonnaderef18_Compare.j1 k false x260000 x260001 x260002 x260003 x261000 x261001 x261002 x261003))
def colonnaderef18_Compare.j1 : Nat → Bool → Int → Int → Nat → ByteArray → Int → Int → Nat → ByteArray → Option (Int)
  | 0, _, _, _, _, _, _, _, _, _ => none
  | k + 1, x59, x260000, x260001, x260002, x260003, x261000, x261001, x261002, x261003 => if x59 = true then ((colonnaderef18_sign.f (flt x260002 x261002) (fgt x260002 x261002)).bind fun t266 => (some t266)) else (if x260000 = 1 then ((colonnaderef18_mixed.f x260001 x261002).bind fun t267 => (some t267)) else ((colonnaderef18_mixed.f x261001 x260002).bind fun t268 => (some (wrap64 (-t268)))))
end
def colonnaderef18_Compare.f (k : Nat) (a0_0 : Int) (a0_1 : Int) (a0_2 : Nat) (a0_3 : ByteArray) (a1_0 : Int) (a1_1 : Int) (a1_2 : Nat) (a1_3 : ByteArray) : Option (Int) := (colonnaderef18_class.f a0_0 a0_1 a0_2 a0_3).bind fun t261 => ((colonnaderef18_class.f a1_0 a1_1 a1_2 a1_3).bind fun t262 => (if t261 = t262 then (if t261 = 3 then ((colonnaderef18_sign.f (Op.bytesLess a0_3.toList a1_3.toList) (Op.bytesLess a1_3.toList a0_3.toList)).bind fun t264 => (some t264)) else (if t261 = 2 then (if a0_0 = 1 then (colonnaderef18_Compare.j0 k (a1_0 == 1) a0_0 a0_1 a0_2 a0_3 a1_0 a1_1 a1_2 a1_3) else (colonnaderef18_Compare.j0 k false a0_0 a0_1 a0_2 a0_3 a1_0 a1_1 a1_2 a1_3)) else (some 0))) else ((colonnaderef18_sign.f (decide (t261 < t262)) true).bind fun t263 => (some t263))))
theorem colonnaderef18_Compare.mono_l : ∀ k, (∀ y0 y1 y2 y3 y4 y5 y6 y7 y8, LeO (colonnaderef18_Compare.j0 k y0 y1 y2 y3 y4 y5 y6 y7 y8) (colonnaderef18_Compare.j0 (k + 1) y0 y1 y2 y3 y4 y5 y6 y7 y8)) ∧ (∀ y0 y1 y2 y3 y4 y5 y6 y7 y8, LeO (colonnaderef18_Compare.j1 k y0 y1 y2 y3 y4 y5 y6 y7 y8) (colonnaderef18_Compare.j1 (k + 1) y0 y1 y2 y3 y4 y5 y6 y7 y8))
  | 0 => ⟨fun _ _ _ _ _ _ _ _ _ r h => by simp [colonnaderef18_Compare.j0] at h, fun _ _ _ _ _ _ _ _ _ r h => by simp [colonnaderef18_Compare.j1] at h⟩
  | k + 1 => by
    obtain ⟨ih0, ih1⟩ := colonnaderef18_Compare.mono_l k
    refine ⟨?_, ?_⟩
    · intro y0 y1 y2 y3 y4 y5 y6 y7 y8
      unfold colonnaderef18_Compare.j0
      repeat' first
      | (with_reducible exact ih0 _ _ _ _ _ _ _ _ _)
      | (with_reducible exact ih1 _ _ _ _ _ _ _ _ _)
      | (with_reducible exact LeO.refl _)
      | (with_reducible exact LeO.none _)
      | (with_reducible refine LeO.ite ?_ ?_)
      | (with_reducible refine LeO.bind ?_ (fun _ => ?_))
      | exact ih0 _ _ _ _ _ _ _ _ _
      | exact ih1 _ _ _ _ _ _ _ _ _
      | exact LeO.none _
      | refine LeO.ite ?_ ?_
      | refine LeO.bind ?_ (fun _ => ?_)
    · intro y0 y1 y2 y3 y4 y5 y6 y7 y8
      unfold colonnaderef18_Compare.j1
      repeat' first
      | (with_reducible exact ih0 _ _ _ _ _ _ _ _ _)
      | (with_reducible exact ih1 _ _ _ _ _ _ _ _ _)
      | (with_reducible exact LeO.refl _)
      | (with_reducible exact LeO.none _)
      | (with_reducible refine LeO.ite ?_ ?_)
      | (with_reducible refine LeO.bind ?_ (fun _ => ?_))
      | exact ih0 _ _ _ _ _ _ _ _ _
      | exact ih1 _ _ _ _ _ _ _ _ _
      | exact LeO.none _
      | refine LeO.ite ?_ ?_
      | refine LeO.bind ?_ (fun _ => ?_)
theorem colonnaderef18_Compare.mono : ∀ a0 a1 a2 a3 a4 a5 a6 a7 k, LeO (colonnaderef18_Compare.f k a0 a1 a2 a3 a4 a5 a6 a7) (colonnaderef18_Compare.f (k + 1) a0 a1 a2 a3 a4 a5 a6 a7) := by
  intro a0 a1 a2 a3 a4 a5 a6 a7 k
  obtain ⟨ih0, ih1⟩ := colonnaderef18_Compare.mono_l k
  unfold colonnaderef18_Compare.f
  repeat' first
      | (with_reducible exact ih0 _ _ _ _ _ _ _ _ _)
      | (with_reducible exact ih1 _ _ _ _ _ _ _ _ _)
      | (with_reducible exact LeO.refl _)
      | (with_reducible exact LeO.none _)
      | (with_reducible refine LeO.ite ?_ ?_)
      | (with_reducible refine LeO.bind ?_ (fun _ => ?_))
      | exact ih0 _ _ _ _ _ _ _ _ _
      | exact ih1 _ _ _ _ _ _ _ _ _
      | exact LeO.none _
      | refine LeO.ite ?_ ?_
      | refine LeO.bind ?_ (fun _ => ?_)
set_option maxHeartbeats 8000000 in
set_option maxRecDepth 100000 in
theorem colonnaderef18_Compare.calls (k : Nat) (a0_0 : Int) (a0_1 : Int) (a0_2 : Nat) (a0_3 : ByteArray) (a1_0 : Int) (a1_1 : Int) (a1_2 : Nat) (a1_3 : ByteArray) (r : Int) (w : World) (h : colonnaderef18_Compare.f k a0_0 a0_1 a0_2 a0_3 a1_0 a1_1 a1_2 a1_3 = some r) :
    Calls Try.prog 54 #[.agg #[.int .i64 a0_0, .int .i64 a0_1, .float .f64 a0_2, .string a0_3], .agg #[.int .i64 a1_0, .int .i64 a1_1, .float .f64 a1_2, .string a1_3]] w fun e w' => e = .returned (.int .i64 r) ∧ Below w.heap.size w w' := by
  have hu28 := Try.underlying28
  have HB := Aside0.mk (Below.refl w.heap.size w)
  have H : ((colonnaderef18_class.f a0_0 a0_1 a0_2 a0_3).bind fun t261 => ((colonnaderef18_class.f a1_0 a1_1 a1_2 a1_3).bind fun t262 => (if t261 = t262 then (if t261 = 3 then ((colonnaderef18_sign.f (Op.bytesLess a0_3.toList a1_3.toList) (Op.bytesLess a1_3.toList a0_3.toList)).bind fun t264 => (some t264)) else (if t261 = 2 then (if a0_0 = 1 then (colonnaderef18_Compare.j0 k (a1_0 == 1) a0_0 a0_1 a0_2 a0_3 a1_0 a1_1 a1_2 a1_3) else (colonnaderef18_Compare.j0 k false a0_0 a0_1 a0_2 a0_3 a1_0 a1_1 a1_2 a1_3)) else (some 0))) else ((colonnaderef18_sign.f (decide (t261 < t262)) true).bind fun t263 => (some t263))))) = some r := h
  clear h
  replace H := Option.bind_eq_some_iff.mp H
  obtain ⟨t261, A30, H⟩ := H
  replace H : ((colonnaderef18_class.f a1_0 a1_1 a1_2 a1_3).bind fun t262 => (if t261 = t262 then (if t261 = 3 then ((colonnaderef18_sign.f (Op.bytesLess a0_3.toList a1_3.toList) (Op.bytesLess a1_3.toList a0_3.toList)).bind fun t264 => (some t264)) else (if t261 = 2 then (if a0_0 = 1 then (colonnaderef18_Compare.j0 k (a1_0 == 1) a0_0 a0_1 a0_2 a0_3 a1_0 a1_1 a1_2 a1_3) else (colonnaderef18_Compare.j0 k false a0_0 a0_1 a0_2 a0_3 a1_0 a1_1 a1_2 a1_3)) else (some 0))) else ((colonnaderef18_sign.f (decide (t261 < t262)) true).bind fun t263 => (some t263)))) = some r := H
  have A3 := Aside0.mk A30
  clear A30
  replace H := Option.bind_eq_some_iff.mp H
  obtain ⟨t262, A40, H⟩ := H
  replace H : (if t261 = t262 then (if t261 = 3 then ((colonnaderef18_sign.f (Op.bytesLess a0_3.toList a1_3.toList) (Op.bytesLess a1_3.toList a0_3.toList)).bind fun t264 => (some t264)) else (if t261 = 2 then (if a0_0 = 1 then (colonnaderef18_Compare.j0 k (a1_0 == 1) a0_0 a0_1 a0_2 a0_3 a1_0 a1_1 a1_2 a1_3) else (colonnaderef18_Compare.j0 k false a0_0 a0_1 a0_2 a0_3 a1_0 a1_1 a1_2 a1_3)) else (some 0))) else ((colonnaderef18_sign.f (decide (t261 < t262)) true).bind fun t263 => (some t263))) = some r := H
  have A4 := Aside0.mk A40
  clear A40
  by_cases c5 : t261 = t262
  · rw [if_pos c5] at H
    have c5b0 : (t261 == t262) = true := beq_iff_eq.mpr c5
    have c5b1 : (t261 != t262) = false := bne_eq_false_iff_eq.mpr c5
    clear c5
    by_cases c6 : t261 = 3
    · rw [if_pos c6] at H
      have c6b0 : (t261 == 3) = true := beq_iff_eq.mpr c6
      have c6b1 : (t261 != 3) = false := bne_eq_false_iff_eq.mpr c6
      clear c6
      replace H := Option.bind_eq_some_iff.mp H
      obtain ⟨t264, A70, H⟩ := H
      replace H : (some t264) = some r := H
      have A7 := Aside0.mk A70
      clear A70
      obtain rfl := Option.some.inj H
      go_enter Try.func54, Try.ntmps54
      go_wp2_with (first | ((with_reducible refine gate_dst (N := 2) rfl ?_); refine box_event ?hg (N := 2) ?hd (cs := #[.int .i64 a0_0, .int .i64 a0_1, .float .f64 a0_2, .string a0_3]) (t := 28) ?hr ?_; (case hd => rfl); (case hg => rfl); (case hr => first | (go_simp; done) | (go_simp; rfl)); intro gb259 hg w8 hbox hb; have n0_ := Aside0.mk (below_step (by repeat (first | (with_reducible first | exact HB.out | apply below_alloc | apply pw_below_drewN | apply below_drew1) | exact HB.out)) hb); have n1_ := Aside0.mk (hbox); have n2_ := Aside0.mk ((by rw [hg]; exact (below_size (by repeat (first | (with_reducible first | exact HB.out | apply below_alloc | apply pw_below_drewN | apply below_drew1) | exact HB.out))) : w.heap.size ≤ gb259)); have n3_ := Aside0.mk ((by rw [hg]; exact (below_size (by repeat (first | (with_reducible first | exact HB.out | apply below_alloc | apply pw_below_drewN | apply below_drew1) | exact HB.out))) : w.heap.size ≤ gb259)); clear HB; have HB := n0_; have BK259 := n1_; have GW259 := n2_; have GE259 := n3_; clear n0_ n1_ n2_ n3_; clear hb hbox hg) | ((with_reducible refine gate_dst (N := 3) rfl ?_); refine box_event ?hg (N := 3) ?hd (cs := #[.int .i64 a1_0, .int .i64 a1_1, .float .f64 a1_2, .string a1_3]) (t := 28) ?hr ?_; (case hd => rfl); (case hg => rfl); (case hr => first | (go_simp; done) | (go_simp; rfl)); intro gb260 hg w9 hbox hb; have n0_ := blkS BK259 hb; have n1_ := Aside0.mk (below_step (by repeat (first | (with_reducible first | exact HB.out | apply below_alloc | apply pw_below_drewN | apply below_drew1 | refine below_set ?_ GE259.out) | exact HB.out)) hb); have n2_ := Aside0.mk (hbox); have n3_ := Aside0.mk ((by rw [hg]; exact (below_size (by repeat (first | (with_reducible first | exact HB.out | apply below_alloc | apply pw_below_drewN | apply below_drew1 | refine below_set ?_ GE259.out) | exact HB.out))) : w.heap.size ≤ gb260)); have n4_ := Aside0.mk ((by rw [hg]; exact (below_size (by repeat (first | (with_reducible first | exact HB.out | apply below_alloc | apply pw_below_drewN | apply below_drew1 | refine below_set ?_ GE259.out) | exact HB.out))) : w.heap.size ≤ gb260)); have n5_ := Aside0.mk ((by rw [hg]; exact Nat.ne_of_lt (blk_lt (g := gb259) (o := .cells #[.int .i64 a0_0, .int .i64 a0_1, .float .f64 a0_2, .string a0_3] 28 (0, 0)) (by (with_reducible repeat (first | refine blk_drewN ?_ _ | refine blk_drew ?_ | refine blk_alloc ?_ _)); exact BK259.out)) : gb259 ≠ gb260)); have n6_ := Aside0.mk ((by rw [hg]; exact Nat.ne_of_gt (blk_lt (g := gb259) (o := .cells #[.int .i64 a0_0, .int .i64 a0_1, .float .f64 a0_2, .string a0_3] 28 (0, 0)) (by (with_reducible repeat (first | refine blk_drewN ?_ _ | refine blk_drew ?_ | refine blk_alloc ?_ _)); exact BK259.out)) : gb260 ≠ gb259)); clear BK259; clear HB; have BK259 := n0_; have HB := n1_; have BK260 := n2_; have GW260 := n3_; have GE260 := n4_; have NB259_260 := n5_; have NB260_259 := n6_; clear n0_ n1_ n2_ n3_ n4_ n5_ n6_; clear hb hbox hg; have hnb10 := NB259_260.out; have hnc10 := NB260_259.out; obtain ⟨hcz11_0, hcz11_1, hcz11_2, hcz11_3⟩ := cells_4 BK259.out; obtain ⟨hfz11_0, hfz11_1, hfz11_2, hfz11_3⟩ := froz_4 BK259.out) | ((with_reducible refine gate_callee (f := 77) rfl ?_); refine goesL_ (some 8) rfl rfl Try.func77 (by kernel_rfl) rfl #[.agg #[.int .i64 a0_0, .int .i64 a0_1, .float .f64 a0_2, .string a0_3]] rfl (by (try simp only [List.map_toArray, List.map_cons, List.map_nil]); first | done | rfl | (simp only [List.length_drop, List.length_take]; rfl)) ?_; (with_reducible refine (colonnaderef18_class.calls a0_0 a0_1 a0_2 a0_3 t261 _ A3.out).mono ?_); rintro e w12 ⟨rfl, hb⟩; refine ⟨_, rfl, ?_⟩; have n0_ := blkS BK259 hb; have n1_ := blkS BK260 hb; have n2_ := Aside0.mk (below_step (by repeat (first | (with_reducible first | exact HB.out | apply below_alloc | apply pw_below_drewN | apply below_drew1 | refine below_set ?_ GE259.out | refine below_set ?_ GE260.out) | exact HB.out)) hb); clear BK259; clear BK260; clear HB; have BK259 := n0_; have BK260 := n1_; have HB := n2_; clear n0_ n1_ n2_; (try clear hb); (try clear hb2); (try clear hk); (try clear hi); obtain ⟨hcz13_0, hcz13_1, hcz13_2, hcz13_3⟩ := cells_4 BK260.out; obtain ⟨hfz13_0, hfz13_1, hfz13_2, hfz13_3⟩ := froz_4 BK260.out) | ((with_reducible refine gate_callee (f := 77) rfl ?_); refine goesL_ (some 10) rfl rfl Try.func77 (by kernel_rfl) rfl #[.agg #[.int .i64 a1_0, .int .i64 a1_1, .float .f64 a1_2, .string a1_3]] rfl (by (try simp only [List.map_toArray, List.map_cons, List.map_nil]); first | done | rfl | (simp only [List.length_drop, List.length_take]; rfl)) ?_; (with_reducible refine (colonnaderef18_class.calls a1_0 a1_1 a1_2 a1_3 t262 _ A4.out).mono ?_); rintro e w14 ⟨rfl, hb⟩; refine ⟨_, rfl, ?_⟩; have n0_ := blkS BK259 hb; have n1_ := blkS BK260 hb; have n2_ := Aside0.mk (below_step (by repeat (first | (with_reducible first | exact HB.out | apply below_alloc | apply pw_below_drewN | apply below_drew1 | refine below_set ?_ GE259.out | refine below_set ?_ GE260.out) | exact HB.out)) hb); clear BK259; clear BK260; clear HB; have BK259 := n0_; have BK260 := n1_; have HB := n2_; clear n0_ n1_ n2_; (try clear hb); (try clear hb2); (try clear hk); (try clear hi); obtain ⟨hcz15_0, hcz15_1, hcz15_2, hcz15_3⟩ := cells_4 BK259.out; obtain ⟨hfz15_0, hfz15_1, hfz15_2, hfz15_3⟩ := froz_4 BK259.out; obtain ⟨hcz16_0, hcz16_1, hcz16_2, hcz16_3⟩ := cells_4 BK260.out; obtain ⟨hfz16_0, hfz16_1, hfz16_2, hfz16_3⟩ := froz_4 BK260.out) | ((with_reducible refine gate_callee (f := 78) rfl ?_); refine goesL_ (some 30) rfl rfl Try.func78 (by kernel_rfl) rfl #[.bool (Op.bytesLess a0_3.toList a1_3.toList), .bool (Op.bytesLess a1_3.toList a0_3.toList)] rfl (by (try simp only [List.map_toArray, List.map_cons, List.map_nil]); first | done | rfl | (simp only [List.length_drop, List.length_take]; rfl)) ?_; (with_reducible refine (colonnaderef18_sign.calls (Op.bytesLess a0_3.toList a1_3.toList) (Op.bytesLess a1_3.toList a0_3.toList) t264 _ A7.out).mono ?_); rintro e w' ⟨rfl, ⟨nd, rfl⟩⟩; refine ⟨_, rfl, ?_⟩))
      go_ret
      exact ⟨by first | rfl | (simp [errW_none, errW_some] <;> rfl) | (simp [*, errW_none, errW_some] <;> rfl), by repeat (first | (with_reducible first | exact HB.out | apply below_alloc | apply pw_below_drewN | apply below_drew1 | refine below_set ?_ GE259.out | refine below_set ?_ GE260.out) | exact HB.out)⟩
    · rw [if_neg c6] at H
      have c6b0 : (t261 == 3) = false := beq_eq_false_iff_ne.mpr c6
      have c6b1 : (t261 != 3) = true := bne_iff_ne.mpr c6
      by_cases c17 : t261 = 2
      · rw [if_pos c17] at H
        have c17b0 : (t261 == 2) = true := beq_iff_eq.mpr c17
        have c17b1 : (t261 != 2) = false := bne_eq_false_iff_eq.mpr c17
        clear c17
        have HC18 := Aside0.mk H
        clear H
        go_enter Try.func54, Try.ntmps54
        go_upto_region 9 with (first | ((with_reducible refine gate_dst (N := 2) rfl ?_); refine box_event ?hg (N := 2) ?hd (cs := #[.int .i64 a0_0, .int .i64 a0_1, .float .f64 a0_2, .string a0_3]) (t := 28) ?hr ?_; (case hd => rfl); (case hg => rfl); (case hr => first | (go_simp; done) | (go_simp; rfl)); intro gb259 hg w19 hbox hb; have n0_ := Aside0.mk (below_step (by repeat (first | (with_reducible first | exact HB.out | apply below_alloc | apply pw_below_drewN | apply below_drew1) | exact HB.out)) hb); have n1_ := Aside0.mk (hbox); have n2_ := Aside0.mk ((by rw [hg]; exact (below_size (by repeat (first | (with_reducible first | exact HB.out | apply below_alloc | apply pw_below_drewN | apply below_drew1) | exact HB.out))) : w.heap.size ≤ gb259)); have n3_ := Aside0.mk ((by rw [hg]; exact (below_size (by repeat (first | (with_reducible first | exact HB.out | apply below_alloc | apply pw_below_drewN | apply below_drew1) | exact HB.out))) : w.heap.size ≤ gb259)); clear HB; have HB := n0_; have BK259 := n1_; have GW259 := n2_; have GE259 := n3_; clear n0_ n1_ n2_ n3_; clear hb hbox hg) | ((with_reducible refine gate_dst (N := 3) rfl ?_); refine box_event ?hg (N := 3) ?hd (cs := #[.int .i64 a1_0, .int .i64 a1_1, .float .f64 a1_2, .string a1_3]) (t := 28) ?hr ?_; (case hd => rfl); (case hg => rfl); (case hr => first | (go_simp; done) | (go_simp; rfl)); intro gb260 hg w20 hbox hb; have n0_ := blkS BK259 hb; have n1_ := Aside0.mk (below_step (by repeat (first | (with_reducible first | exact HB.out | apply below_alloc | apply pw_below_drewN | apply below_drew1 | refine below_set ?_ GE259.out) | exact HB.out)) hb); have n2_ := Aside0.mk (hbox); have n3_ := Aside0.mk ((by rw [hg]; exact (below_size (by repeat (first | (with_reducible first | exact HB.out | apply below_alloc | apply pw_below_drewN | apply below_drew1 | refine below_set ?_ GE259.out) | exact HB.out))) : w.heap.size ≤ gb260)); have n4_ := Aside0.mk ((by rw [hg]; exact (below_size (by repeat (first | (with_reducible first | exact HB.out | apply below_alloc | apply pw_below_drewN | apply below_drew1 | refine below_set ?_ GE259.out) | exact HB.out))) : w.heap.size ≤ gb260)); have n5_ := Aside0.mk ((by rw [hg]; exact Nat.ne_of_lt (blk_lt (g := gb259) (o := .cells #[.int .i64 a0_0, .int .i64 a0_1, .float .f64 a0_2, .string a0_3] 28 (0, 0)) (by (with_reducible repeat (first | refine blk_drewN ?_ _ | refine blk_drew ?_ | refine blk_alloc ?_ _)); exact BK259.out)) : gb259 ≠ gb260)); have n6_ := Aside0.mk ((by rw [hg]; exact Nat.ne_of_gt (blk_lt (g := gb259) (o := .cells #[.int .i64 a0_0, .int .i64 a0_1, .float .f64 a0_2, .string a0_3] 28 (0, 0)) (by (with_reducible repeat (first | refine blk_drewN ?_ _ | refine blk_drew ?_ | refine blk_alloc ?_ _)); exact BK259.out)) : gb260 ≠ gb259)); clear BK259; clear HB; have BK259 := n0_; have HB := n1_; have BK260 := n2_; have GW260 := n3_; have GE260 := n4_; have NB259_260 := n5_; have NB260_259 := n6_; clear n0_ n1_ n2_ n3_ n4_ n5_ n6_; clear hb hbox hg; have hnb21 := NB259_260.out; have hnc21 := NB260_259.out; obtain ⟨hcz22_0, hcz22_1, hcz22_2, hcz22_3⟩ := cells_4 BK259.out; obtain ⟨hfz22_0, hfz22_1, hfz22_2, hfz22_3⟩ := froz_4 BK259.out) | ((with_reducible refine gate_callee (f := 77) rfl ?_); refine goesL_ (some 8) rfl rfl Try.func77 (by kernel_rfl) rfl #[.agg #[.int .i64 a0_0, .int .i64 a0_1, .float .f64 a0_2, .string a0_3]] rfl (by (try simp only [List.map_toArray, List.map_cons, List.map_nil]); first | done | rfl | (simp only [List.length_drop, List.length_take]; rfl)) ?_; (with_reducible refine (colonnaderef18_class.calls a0_0 a0_1 a0_2 a0_3 t261 _ A3.out).mono ?_); rintro e w23 ⟨rfl, hb⟩; refine ⟨_, rfl, ?_⟩; have n0_ := blkS BK259 hb; have n1_ := blkS BK260 hb; have n2_ := Aside0.mk (below_step (by repeat (first | (with_reducible first | exact HB.out | apply below_alloc | apply pw_below_drewN | apply below_drew1 | refine below_set ?_ GE259.out | refine below_set ?_ GE260.out) | exact HB.out)) hb); clear BK259; clear BK260; clear HB; have BK259 := n0_; have BK260 := n1_; have HB := n2_; clear n0_ n1_ n2_; (try clear hb); (try clear hb2); (try clear hk); (try clear hi); obtain ⟨hcz24_0, hcz24_1, hcz24_2, hcz24_3⟩ := cells_4 BK260.out; obtain ⟨hfz24_0, hfz24_1, hfz24_2, hfz24_3⟩ := froz_4 BK260.out) | ((with_reducible refine gate_callee (f := 77) rfl ?_); refine goesL_ (some 10) rfl rfl Try.func77 (by kernel_rfl) rfl #[.agg #[.int .i64 a1_0, .int .i64 a1_1, .float .f64 a1_2, .string a1_3]] rfl (by (try simp only [List.map_toArray, List.map_cons, List.map_nil]); first | done | rfl | (simp only [List.length_drop, List.length_take]; rfl)) ?_; (with_reducible refine (colonnaderef18_class.calls a1_0 a1_1 a1_2 a1_3 t262 _ A4.out).mono ?_); rintro e w25 ⟨rfl, hb⟩; refine ⟨_, rfl, ?_⟩; have n0_ := blkS BK259 hb; have n1_ := blkS BK260 hb; have n2_ := Aside0.mk (below_step (by repeat (first | (with_reducible first | exact HB.out | apply below_alloc | apply pw_below_drewN | apply below_drew1 | refine below_set ?_ GE259.out | refine below_set ?_ GE260.out) | exact HB.out)) hb); clear BK259; clear BK260; clear HB; have BK259 := n0_; have BK260 := n1_; have HB := n2_; clear n0_ n1_ n2_; (try clear hb); (try clear hb2); (try clear hk); (try clear hi)))
        (try simp only [Act.put, List.setIfInBounds_toArray, List.set_cons_zero, List.set_cons_succ])
        go_cut [40] (fun v40 wc => ∃ (kq : Nat) (x40_17 : Bool), v40 = .bool x40_17 ∧ Aside0 (colonnaderef18_Compare.j0 kq x40_17 a0_0 a0_1 a0_2 a0_3 a1_0 a1_1 a1_2 a1_3 = some r) ∧ Aside0 (kq ≤ k) ∧ Aside0 (wc.heap[gb259]? = some (.cells #[.int .i64 a0_0, .int .i64 a0_1, .float .f64 a0_2, .string a0_3] 28 (0, 0))) ∧ Aside0 (wc.heap[gb260]? = some (.cells #[.int .i64 a1_0, .int .i64 a1_1, .float .f64 a1_2, .string a1_3] 28 (0, 0))) ∧ Aside0 (Below w.heap.size w wc))
        case first =>
          have H := HC18.out
          clear HC18
          by_cases c26 : a0_0 = 1
          · rw [if_pos c26] at H
            have c26b0 : (a0_0 == 1) = true := beq_iff_eq.mpr c26
            have c26b1 : (a0_0 != 1) = false := bne_eq_false_iff_eq.mpr c26
            clear c26
            (first | rw [c26b0] | (simp only [i64_w, i32_w]; rw [c26b0]) | skip)
            have H' := Aside0.mk H
            clear H
            have hnb27 := NB259_260.out
            have hnc27 := NB260_259.out
            obtain ⟨hcz28_0, hcz28_1, hcz28_2, hcz28_3⟩ := cells_4 BK259.out
            obtain ⟨hfz28_0, hfz28_1, hfz28_2, hfz28_3⟩ := froz_4 BK259.out
            obtain ⟨hcz29_0, hcz29_1, hcz29_2, hcz29_3⟩ := cells_4 BK260.out
            obtain ⟨hfz29_0, hfz29_1, hfz29_2, hfz29_3⟩ := froz_4 BK260.out
            go_wp2
            go_meet
            case rel => exact ⟨_, ((a1_0 == 1)), (by first | rfl | (simp; done) | (simp [*]; done)), H', ⟨by first | omega | exact Nat.le_refl _⟩, ⟨by (with_reducible repeat (first | refine blk_drewN ?_ _ | refine blk_drew ?_ | refine blk_alloc ?_ _)); exact BK259.out⟩, ⟨by (with_reducible repeat (first | refine blk_drewN ?_ _ | refine blk_drew ?_ | refine blk_alloc ?_ _)); exact BK260.out⟩, ⟨by repeat (first | (with_reducible first | exact HB.out | apply below_alloc | apply pw_below_drewN | apply below_drew1 | refine below_set ?_ GE259.out | refine below_set ?_ GE260.out) | exact HB.out)⟩⟩
          · rw [if_neg c26] at H
            have c26b0 : (a0_0 == 1) = false := beq_eq_false_iff_ne.mpr c26
            have c26b1 : (a0_0 != 1) = true := bne_iff_ne.mpr c26
            (first | rw [c26b0] | (simp only [i64_w, i32_w]; rw [c26b0]) | skip)
            have H' := Aside0.mk H
            clear H
            have hnb30 := NB259_260.out
            have hnc30 := NB260_259.out
            obtain ⟨hcz31_0, hcz31_1, hcz31_2, hcz31_3⟩ := cells_4 BK259.out
            obtain ⟨hfz31_0, hfz31_1, hfz31_2, hfz31_3⟩ := froz_4 BK259.out
            go_wp2
            go_meet
            case rel => exact ⟨_, (false), (by first | rfl | (simp; done) | (simp [*]; done)), H', ⟨by first | omega | exact Nat.le_refl _⟩, ⟨by (with_reducible repeat (first | refine blk_drewN ?_ _ | refine blk_drew ?_ | refine blk_alloc ?_ _)); exact BK259.out⟩, ⟨by (with_reducible repeat (first | refine blk_drewN ?_ _ | refine blk_drew ?_ | refine blk_alloc ?_ _)); exact BK260.out⟩, ⟨by repeat (first | (with_reducible first | exact HB.out | apply below_alloc | apply pw_below_drewN | apply below_drew1 | refine below_set ?_ GE259.out | refine below_set ?_ GE260.out) | exact HB.out)⟩⟩
        case rest =>
          clear HC18
          try clear c1
          try clear c2
          try clear p2
          try clear c3
          try clear c5
          try clear c5b0
          try clear c5b1
          try clear c6
          try clear c6b0
          try clear c6b1
          try clear c7
          try clear c10
          try clear c17
          try clear c17b0
          try clear c17b1
          try clear c21
          try clear c26
          try clear c26b0
          try clear c26b1
          try clear c27
          try clear c30
          try clear hcz11_0
          try clear hcz11_1
          try clear hcz11_2
          try clear hcz11_3
          try clear hcz13_0
          try clear hcz13_1
          try clear hcz13_2
          try clear hcz13_3
          try clear hcz15_0
          try clear hcz15_1
          try clear hcz15_2
          try clear hcz15_3
          try clear hcz16_0
          try clear hcz16_1
          try clear hcz16_2
          try clear hcz16_3
          try clear hcz22_0
          try clear hcz22_1
          try clear hcz22_2
          try clear hcz22_3
          try clear hcz24_0
          try clear hcz24_1
          try clear hcz24_2
          try clear hcz24_3
          try clear hcz28_0
          try clear hcz28_1
          try clear hcz28_2
          try clear hcz28_3
          try clear hcz29_0
          try clear hcz29_1
          try clear hcz29_2
          try clear hcz29_3
          try clear hcz31_0
          try clear hcz31_1
          try clear hcz31_2
          try clear hcz31_3
          try clear hfz11_0
          try clear hfz11_1
          try clear hfz11_2
          try clear hfz11_3
          try clear hfz13_0
          try clear hfz13_1
          try clear hfz13_2
          try clear hfz13_3
          try clear hfz15_0
          try clear hfz15_1
          try clear hfz15_2
          try clear hfz15_3
          try clear hfz16_0
          try clear hfz16_1
          try clear hfz16_2
          try clear hfz16_3
          try clear hfz22_0
          try clear hfz22_1
          try clear hfz22_2
          try clear hfz22_3
          try clear hfz24_0
          try clear hfz24_1
          try clear hfz24_2
          try clear hfz24_3
          try clear hfz28_0
          try clear hfz28_1
          try clear hfz28_2
          try clear hfz28_3
          try clear hfz29_0
          try clear hfz29_1
          try clear hfz29_2
          try clear hfz29_3
          try clear hfz31_0
          try clear hfz31_1
          try clear hfz31_2
          try clear hfz31_3
          obtain ⟨kq, x40_17, rfl, HA, HJ17, BK259, BK260, HB⟩ := hcut
          cases kq with
          | zero => exact absurd HA.out (by simp [colonnaderef18_Compare.j0])
          | succ kj17 =>
            have H := HA.out
            clear HA
            simp only [colonnaderef18_Compare.j0] at H
            by_cases c32 : x40_17 = true
            · subst c32
              have H1 : ((colonnaderef18_sign.f (decide (a0_1 < a1_1)) (decide (a0_1 > a1_1))).bind fun t265 => (some t265)) = some r := by rw [if_pos rfl] at H; exact H
              clear H
              have H := H1
              clear H1
              replace H := Option.bind_eq_some_iff.mp H
              obtain ⟨t265, A330, H⟩ := H
              replace H : (some t265) = some r := H
              have A33 := Aside0.mk A330
              clear A330
              obtain rfl := Option.some.inj H
              have hnb34 := NB259_260.out
              have hnc34 := NB260_259.out
              obtain ⟨hcz35_0, hcz35_1, hcz35_2, hcz35_3⟩ := cells_4 BK259.out
              obtain ⟨hfz35_0, hfz35_1, hfz35_2, hfz35_3⟩ := froz_4 BK259.out
              obtain ⟨hcz36_0, hcz36_1, hcz36_2, hcz36_3⟩ := cells_4 BK260.out
              obtain ⟨hfz36_0, hfz36_1, hfz36_2, hfz36_3⟩ := froz_4 BK260.out
              go_wp2_with (first | ((with_reducible refine gate_callee (f := 78) rfl ?_); refine goesL_ (some 51) rfl rfl Try.func78 (by kernel_rfl) rfl #[.bool (decide (a0_1 < a1_1)), .bool (decide (a0_1 > a1_1))] rfl (by (try simp only [List.map_toArray, List.map_cons, List.map_nil]); first | done | rfl | (simp only [List.length_drop, List.length_take]; rfl)) ?_; (with_reducible refine (colonnaderef18_sign.calls (decide (a0_1 < a1_1)) (decide (a0_1 > a1_1)) t265 _ A33.out).mono ?_); rintro e w' ⟨rfl, ⟨nd, rfl⟩⟩; refine ⟨_, rfl, ?_⟩))
              go_ret
              exact ⟨by first | rfl | (simp [errW_none, errW_some] <;> rfl) | (simp [*, errW_none, errW_some] <;> rfl), by repeat (first | (with_reducible first | exact HB.out | apply below_alloc | apply pw_below_drewN | apply below_drew1 | refine below_set ?_ GE259.out | refine below_set ?_ GE260.out) | exact HB.out)⟩
            · replace c32 := Bool.eq_false_iff.mpr c32
              subst c32
              have H1 : (if a0_0 = 3 then (colonnaderef18_Compare.j1 kj17 (a1_0 == 3) a0_0 a0_1 a0_2 a0_3 a1_0 a1_1 a1_2 a1_3) else (colonnaderef18_Compare.j1 kj17 false a0_0 a0_1 a0_2 a0_3 a1_0 a1_1 a1_2 a1_3)) = some r := by rw [if_neg (show ¬ (false = true) by decide)] at H; exact H
              clear H
              have H := H1
              clear H1
              have HC37 := Aside0.mk H
              clear H
              go_upto_region 11 with (fail)
              go_cut [59] (fun v59 wc => ∃ (kq : Nat) (x59_36 : Bool), v59 = .bool x59_36 ∧ Aside0 (colonnaderef18_Compare.j1 kq x59_36 a0_0 a0_1 a0_2 a0_3 a1_0 a1_1 a1_2 a1_3 = some r) ∧ Aside0 (kq ≤ kj17) ∧ Aside0 (wc.heap[gb259]? = some (.cells #[.int .i64 a0_0, .int .i64 a0_1, .float .f64 a0_2, .string a0_3] 28 (0, 0))) ∧ Aside0 (wc.heap[gb260]? = some (.cells #[.int .i64 a1_0, .int .i64 a1_1, .float .f64 a1_2, .string a1_3] 28 (0, 0))) ∧ Aside0 (Below w.heap.size w wc))
              case first =>
                have H := HC37.out
                clear HC37
                by_cases c38 : a0_0 = 3
                · rw [if_pos c38] at H
                  have c38b0 : (a0_0 == 3) = true := beq_iff_eq.mpr c38
                  have c38b1 : (a0_0 != 3) = false := bne_eq_false_iff_eq.mpr c38
                  clear c38
                  (first | rw [c38b0] | (simp only [i64_w, i32_w]; rw [c38b0]) | skip)
                  have H' := Aside0.mk H
                  clear H
                  have hnb39 := NB259_260.out
                  have hnc39 := NB260_259.out
                  obtain ⟨hcz40_0, hcz40_1, hcz40_2, hcz40_3⟩ := cells_4 BK259.out
                  obtain ⟨hfz40_0, hfz40_1, hfz40_2, hfz40_3⟩ := froz_4 BK259.out
                  obtain ⟨hcz41_0, hcz41_1, hcz41_2, hcz41_3⟩ := cells_4 BK260.out
                  obtain ⟨hfz41_0, hfz41_1, hfz41_2, hfz41_3⟩ := froz_4 BK260.out
                  go_wp2
                  go_meet
                  case rel => exact ⟨_, ((a1_0 == 3)), (by first | rfl | (simp; done) | (simp [*]; done)), H', ⟨by have := HJ17.out; first | omega | exact Nat.le_refl _⟩, ⟨by (with_reducible repeat (first | refine blk_drewN ?_ _ | refine blk_drew ?_ | refine blk_alloc ?_ _)); exact BK259.out⟩, ⟨by (with_reducible repeat (first | refine blk_drewN ?_ _ | refine blk_drew ?_ | refine blk_alloc ?_ _)); exact BK260.out⟩, ⟨by repeat (first | (with_reducible first | exact HB.out | apply below_alloc | apply pw_below_drewN | apply below_drew1 | refine below_set ?_ GE259.out | refine below_set ?_ GE260.out) | exact HB.out)⟩⟩
                · rw [if_neg c38] at H
                  have c38b0 : (a0_0 == 3) = false := beq_eq_false_iff_ne.mpr c38
                  have c38b1 : (a0_0 != 3) = true := bne_iff_ne.mpr c38
                  (first | rw [c38b0] | (simp only [i64_w, i32_w]; rw [c38b0]) | skip)
                  have H' := Aside0.mk H
                  clear H
                  have hnb42 := NB259_260.out
                  have hnc42 := NB260_259.out
                  obtain ⟨hcz43_0, hcz43_1, hcz43_2, hcz43_3⟩ := cells_4 BK259.out
                  obtain ⟨hfz43_0, hfz43_1, hfz43_2, hfz43_3⟩ := froz_4 BK259.out
                  go_wp2
                  go_meet
                  case rel => exact ⟨_, (false), (by first | rfl | (simp; done) | (simp [*]; done)), H', ⟨by have := HJ17.out; first | omega | exact Nat.le_refl _⟩, ⟨by (with_reducible repeat (first | refine blk_drewN ?_ _ | refine blk_drew ?_ | refine blk_alloc ?_ _)); exact BK259.out⟩, ⟨by (with_reducible repeat (first | refine blk_drewN ?_ _ | refine blk_drew ?_ | refine blk_alloc ?_ _)); exact BK260.out⟩, ⟨by repeat (first | (with_reducible first | exact HB.out | apply below_alloc | apply pw_below_drewN | apply below_drew1 | refine below_set ?_ GE259.out | refine below_set ?_ GE260.out) | exact HB.out)⟩⟩
              case rest =>
                clear HC37
                try clear c1
                try clear c2
                try clear p2
                try clear c3
                try clear c4
                try clear c5
                try clear c5b0
                try clear c5b1
                try clear c6
                try clear c6b0
                try clear c6b1
                try clear c7
                try clear c10
                try clear c17
                try clear c17b0
                try clear c17b1
                try clear c21
                try clear c26
                try clear c26b0
                try clear c26b1
                try clear c27
                try clear c30
                try clear c32
                try clear c34
                try clear c38
                try clear c38b0
                try clear c38b1
                try clear c39
                try clear c42
                try clear hcz11_0
                try clear hcz11_1
                try clear hcz11_2
                try clear hcz11_3
                try clear hcz13_0
                try clear hcz13_1
                try clear hcz13_2
                try clear hcz13_3
                try clear hcz15_0
                try clear hcz15_1
                try clear hcz15_2
                try clear hcz15_3
                try clear hcz16_0
                try clear hcz16_1
                try clear hcz16_2
                try clear hcz16_3
                try clear hcz22_0
                try clear hcz22_1
                try clear hcz22_2
                try clear hcz22_3
                try clear hcz24_0
                try clear hcz24_1
                try clear hcz24_2
                try clear hcz24_3
                try clear hcz28_0
                try clear hcz28_1
                try clear hcz28_2
                try clear hcz28_3
                try clear hcz29_0
                try clear hcz29_1
                try clear hcz29_2
                try clear hcz29_3
                try clear hcz31_0
                try clear hcz31_1
                try clear hcz31_2
                try clear hcz31_3
                try clear hcz35_0
                try clear hcz35_1
                try clear hcz35_2
                try clear hcz35_3
                try clear hcz36_0
                try clear hcz36_1
                try clear hcz36_2
                try clear hcz36_3
                try clear hcz40_0
                try clear hcz40_1
                try clear hcz40_2
                try clear hcz40_3
                try clear hcz41_0
                try clear hcz41_1
                try clear hcz41_2
                try clear hcz41_3
                try clear hcz43_0
                try clear hcz43_1
                try clear hcz43_2
                try clear hcz43_3
                try clear hfz11_0
                try clear hfz11_1
                try clear hfz11_2
                try clear hfz11_3
                try clear hfz13_0
                try clear hfz13_1
                try clear hfz13_2
                try clear hfz13_3
                try clear hfz15_0
                try clear hfz15_1
                try clear hfz15_2
                try clear hfz15_3
                try clear hfz16_0
                try clear hfz16_1
                try clear hfz16_2
                try clear hfz16_3
                try clear hfz22_0
                try clear hfz22_1
                try clear hfz22_2
                try clear hfz22_3
                try clear hfz24_0
                try clear hfz24_1
                try clear hfz24_2
                try clear hfz24_3
                try clear hfz28_0
                try clear hfz28_1
                try clear hfz28_2
                try clear hfz28_3
                try clear hfz29_0
                try clear hfz29_1
                try clear hfz29_2
                try clear hfz29_3
                try clear hfz31_0
                try clear hfz31_1
                try clear hfz31_2
                try clear hfz31_3
                try clear hfz35_0
                try clear hfz35_1
                try clear hfz35_2
                try clear hfz35_3
                try clear hfz36_0
                try clear hfz36_1
                try clear hfz36_2
                try clear hfz36_3
                try clear hfz40_0
                try clear hfz40_1
                try clear hfz40_2
                try clear hfz40_3
                try clear hfz41_0
                try clear hfz41_1
                try clear hfz41_2
                try clear hfz41_3
                try clear hfz43_0
                try clear hfz43_1
                try clear hfz43_2
                try clear hfz43_3
                try clear p2
                obtain ⟨kq, x59_36, rfl, HA, HJ36, BK259, BK260, HB⟩ := hcut
                cases kq with
                | zero => exact absurd HA.out (by simp [colonnaderef18_Compare.j1])
                | succ kj36 =>
                  have H := HA.out
                  clear HA
                  simp only [colonnaderef18_Compare.j1] at H
                  by_cases c44 : x59_36 = true
                  · subst c44
                    have H1 : ((colonnaderef18_sign.f (flt a0_2 a1_2) (fgt a0_2 a1_2)).bind fun t266 => (some t266)) = some r := by rw [if_pos rfl] at H; exact H
                    clear H
                    have H := H1
                    clear H1
                    replace H := Option.bind_eq_some_iff.mp H
                    obtain ⟨t266, A450, H⟩ := H
                    replace H : (some t266) = some r := H
                    have A45 := Aside0.mk A450
                    clear A450
                    obtain rfl := Option.some.inj H
                    have hnb46 := NB259_260.out
                    have hnc46 := NB260_259.out
                    obtain ⟨hcz47_0, hcz47_1, hcz47_2, hcz47_3⟩ := cells_4 BK259.out
                    obtain ⟨hfz47_0, hfz47_1, hfz47_2, hfz47_3⟩ := froz_4 BK259.out
                    obtain ⟨hcz48_0, hcz48_1, hcz48_2, hcz48_3⟩ := cells_4 BK260.out
                    obtain ⟨hfz48_0, hfz48_1, hfz48_2, hfz48_3⟩ := froz_4 BK260.out
                    go_wp2_with (first | ((with_reducible refine gate_callee (f := 78) rfl ?_); refine goesL_ (some 70) rfl rfl Try.func78 (by kernel_rfl) rfl #[.bool (flt a0_2 a1_2), .bool (fgt a0_2 a1_2)] rfl (by (try simp only [List.map_toArray, List.map_cons, List.map_nil]); first | done | rfl | (simp only [List.length_drop, List.length_take]; rfl)) ?_; (with_reducible refine (colonnaderef18_sign.calls (flt a0_2 a1_2) (fgt a0_2 a1_2) t266 _ A45.out).mono ?_); rintro e w' ⟨rfl, ⟨nd, rfl⟩⟩; refine ⟨_, rfl, ?_⟩))
                    go_ret
                    exact ⟨by first | rfl | (simp [errW_none, errW_some] <;> rfl) | (simp [*, errW_none, errW_some] <;> rfl), by repeat (first | (with_reducible first | exact HB.out | apply below_alloc | apply pw_below_drewN | apply below_drew1 | refine below_set ?_ GE259.out | refine below_set ?_ GE260.out) | exact HB.out)⟩
                  · replace c44 := Bool.eq_false_iff.mpr c44
                    subst c44
                    have H1 : (if a0_0 = 1 then ((colonnaderef18_mixed.f a0_1 a1_2).bind fun t267 => (some t267)) else ((colonnaderef18_mixed.f a1_1 a0_2).bind fun t268 => (some (wrap64 (-t268))))) = some r := by rw [if_neg (show ¬ (false = true) by decide)] at H; exact H
                    clear H
                    have H := H1
                    clear H1
                    by_cases c49 : a0_0 = 1
                    · rw [if_pos c49] at H
                      have c49b0 : (a0_0 == 1) = true := beq_iff_eq.mpr c49
                      have c49b1 : (a0_0 != 1) = false := bne_eq_false_iff_eq.mpr c49
                      clear c49
                      replace H := Option.bind_eq_some_iff.mp H
                      obtain ⟨t267, A500, H⟩ := H
                      replace H : (some t267) = some r := H
                      have A50 := Aside0.mk A500
                      clear A500
                      obtain rfl := Option.some.inj H
                      have hnb51 := NB259_260.out
                      have hnc51 := NB260_259.out
                      obtain ⟨hcz52_0, hcz52_1, hcz52_2, hcz52_3⟩ := cells_4 BK259.out
                      obtain ⟨hfz52_0, hfz52_1, hfz52_2, hfz52_3⟩ := froz_4 BK259.out
                      obtain ⟨hcz53_0, hcz53_1, hcz53_2, hcz53_3⟩ := cells_4 BK260.out
                      obtain ⟨hfz53_0, hfz53_1, hfz53_2, hfz53_3⟩ := froz_4 BK260.out
                      go_wp2_with (first | ((with_reducible refine gate_callee (f := 79) rfl ?_); refine goesL_ (some 78) rfl rfl Try.func79 (by kernel_rfl) rfl #[.int .i64 a0_1, .float .f64 a1_2] rfl (by (try simp only [List.map_toArray, List.map_cons, List.map_nil]); first | done | rfl | (simp only [List.length_drop, List.length_take]; rfl)) ?_; (with_reducible refine (colonnaderef18_mixed.calls a0_1 a1_2 t267 _ A50.out).mono ?_); rintro e w' ⟨rfl, ⟨nd, rfl⟩⟩; refine ⟨_, rfl, ?_⟩))
                      go_ret
                      exact ⟨by first | rfl | (simp [errW_none, errW_some] <;> rfl) | (simp [*, errW_none, errW_some] <;> rfl), by repeat (first | (with_reducible first | exact HB.out | apply below_alloc | apply pw_below_drewN | apply below_drew1 | refine below_set ?_ GE259.out | refine below_set ?_ GE260.out) | exact HB.out)⟩
                    · rw [if_neg c49] at H
                      have c49b0 : (a0_0 == 1) = false := beq_eq_false_iff_ne.mpr c49
                      have c49b1 : (a0_0 != 1) = true := bne_iff_ne.mpr c49
                      replace H := Option.bind_eq_some_iff.mp H
                      obtain ⟨t268, A540, H⟩ := H
                      replace H : (some (wrap64 (-t268))) = some r := H
                      have A54 := Aside0.mk A540
                      clear A540
                      obtain rfl := Option.some.inj H
                      have hnb55 := NB259_260.out
                      have hnc55 := NB260_259.out
                      obtain ⟨hcz56_0, hcz56_1, hcz56_2, hcz56_3⟩ := cells_4 BK259.out
                      obtain ⟨hfz56_0, hfz56_1, hfz56_2, hfz56_3⟩ := froz_4 BK259.out
                      obtain ⟨hcz57_0, hcz57_1, hcz57_2, hcz57_3⟩ := cells_4 BK260.out
                      obtain ⟨hfz57_0, hfz57_1, hfz57_2, hfz57_3⟩ := froz_4 BK260.out
                      go_wp2_with (first | ((with_reducible refine gate_callee (f := 79) rfl ?_); refine goesL_ (some 83) rfl rfl Try.func79 (by kernel_rfl) rfl #[.int .i64 a1_1, .float .f64 a0_2] rfl (by (try simp only [List.map_toArray, List.map_cons, List.map_nil]); first | done | rfl | (simp only [List.length_drop, List.length_take]; rfl)) ?_; (with_reducible refine (colonnaderef18_mixed.calls a1_1 a0_2 t268 _ A54.out).mono ?_); rintro e w' ⟨rfl, ⟨nd, rfl⟩⟩; refine ⟨_, rfl, ?_⟩))
                      go_ret
                      exact ⟨by first | rfl | (simp [errW_none, errW_some] <;> rfl) | (simp [*, errW_none, errW_some] <;> rfl), by repeat (first | (with_reducible first | exact HB.out | apply below_alloc | apply pw_below_drewN | apply below_drew1 | refine below_set ?_ GE259.out | refine below_set ?_ GE260.out) | exact HB.out)⟩
      · rw [if_neg c17] at H
        have c17b0 : (t261 == 2) = false := beq_eq_false_iff_ne.mpr c17
        have c17b1 : (t261 != 2) = true := bne_iff_ne.mpr c17
        obtain rfl := Option.some.inj H
        go_enter Try.func54, Try.ntmps54
        go_wp2_with (first | ((with_reducible refine gate_dst (N := 2) rfl ?_); refine box_event ?hg (N := 2) ?hd (cs := #[.int .i64 a0_0, .int .i64 a0_1, .float .f64 a0_2, .string a0_3]) (t := 28) ?hr ?_; (case hd => rfl); (case hg => rfl); (case hr => first | (go_simp; done) | (go_simp; rfl)); intro gb259 hg w58 hbox hb; have n0_ := Aside0.mk (below_step (by repeat (first | (with_reducible first | exact HB.out | apply below_alloc | apply pw_below_drewN | apply below_drew1) | exact HB.out)) hb); have n1_ := Aside0.mk (hbox); have n2_ := Aside0.mk ((by rw [hg]; exact (below_size (by repeat (first | (with_reducible first | exact HB.out | apply below_alloc | apply pw_below_drewN | apply below_drew1) | exact HB.out))) : w.heap.size ≤ gb259)); have n3_ := Aside0.mk ((by rw [hg]; exact (below_size (by repeat (first | (with_reducible first | exact HB.out | apply below_alloc | apply pw_below_drewN | apply below_drew1) | exact HB.out))) : w.heap.size ≤ gb259)); clear HB; have HB := n0_; have BK259 := n1_; have GW259 := n2_; have GE259 := n3_; clear n0_ n1_ n2_ n3_; clear hb hbox hg) | ((with_reducible refine gate_dst (N := 3) rfl ?_); refine box_event ?hg (N := 3) ?hd (cs := #[.int .i64 a1_0, .int .i64 a1_1, .float .f64 a1_2, .string a1_3]) (t := 28) ?hr ?_; (case hd => rfl); (case hg => rfl); (case hr => first | (go_simp; done) | (go_simp; rfl)); intro gb260 hg w59 hbox hb; have n0_ := blkS BK259 hb; have n1_ := Aside0.mk (below_step (by repeat (first | (with_reducible first | exact HB.out | apply below_alloc | apply pw_below_drewN | apply below_drew1 | refine below_set ?_ GE259.out) | exact HB.out)) hb); have n2_ := Aside0.mk (hbox); have n3_ := Aside0.mk ((by rw [hg]; exact (below_size (by repeat (first | (with_reducible first | exact HB.out | apply below_alloc | apply pw_below_drewN | apply below_drew1 | refine below_set ?_ GE259.out) | exact HB.out))) : w.heap.size ≤ gb260)); have n4_ := Aside0.mk ((by rw [hg]; exact (below_size (by repeat (first | (with_reducible first | exact HB.out | apply below_alloc | apply pw_below_drewN | apply below_drew1 | refine below_set ?_ GE259.out) | exact HB.out))) : w.heap.size ≤ gb260)); have n5_ := Aside0.mk ((by rw [hg]; exact Nat.ne_of_lt (blk_lt (g := gb259) (o := .cells #[.int .i64 a0_0, .int .i64 a0_1, .float .f64 a0_2, .string a0_3] 28 (0, 0)) (by (with_reducible repeat (first | refine blk_drewN ?_ _ | refine blk_drew ?_ | refine blk_alloc ?_ _)); exact BK259.out)) : gb259 ≠ gb260)); have n6_ := Aside0.mk ((by rw [hg]; exact Nat.ne_of_gt (blk_lt (g := gb259) (o := .cells #[.int .i64 a0_0, .int .i64 a0_1, .float .f64 a0_2, .string a0_3] 28 (0, 0)) (by (with_reducible repeat (first | refine blk_drewN ?_ _ | refine blk_drew ?_ | refine blk_alloc ?_ _)); exact BK259.out)) : gb260 ≠ gb259)); clear BK259; clear HB; have BK259 := n0_; have HB := n1_; have BK260 := n2_; have GW260 := n3_; have GE260 := n4_; have NB259_260 := n5_; have NB260_259 := n6_; clear n0_ n1_ n2_ n3_ n4_ n5_ n6_; clear hb hbox hg; have hnb60 := NB259_260.out; have hnc60 := NB260_259.out; obtain ⟨hcz61_0, hcz61_1, hcz61_2, hcz61_3⟩ := cells_4 BK259.out; obtain ⟨hfz61_0, hfz61_1, hfz61_2, hfz61_3⟩ := froz_4 BK259.out) | ((with_reducible refine gate_callee (f := 77) rfl ?_); refine goesL_ (some 8) rfl rfl Try.func77 (by kernel_rfl) rfl #[.agg #[.int .i64 a0_0, .int .i64 a0_1, .float .f64 a0_2, .string a0_3]] rfl (by (try simp only [List.map_toArray, List.map_cons, List.map_nil]); first | done | rfl | (simp only [List.length_drop, List.length_take]; rfl)) ?_; (with_reducible refine (colonnaderef18_class.calls a0_0 a0_1 a0_2 a0_3 t261 _ A3.out).mono ?_); rintro e w62 ⟨rfl, hb⟩; refine ⟨_, rfl, ?_⟩; have n0_ := blkS BK259 hb; have n1_ := blkS BK260 hb; have n2_ := Aside0.mk (below_step (by repeat (first | (with_reducible first | exact HB.out | apply below_alloc | apply pw_below_drewN | apply below_drew1 | refine below_set ?_ GE259.out | refine below_set ?_ GE260.out) | exact HB.out)) hb); clear BK259; clear BK260; clear HB; have BK259 := n0_; have BK260 := n1_; have HB := n2_; clear n0_ n1_ n2_; (try clear hb); (try clear hb2); (try clear hk); (try clear hi); obtain ⟨hcz63_0, hcz63_1, hcz63_2, hcz63_3⟩ := cells_4 BK260.out; obtain ⟨hfz63_0, hfz63_1, hfz63_2, hfz63_3⟩ := froz_4 BK260.out) | ((with_reducible refine gate_callee (f := 77) rfl ?_); refine goesL_ (some 10) rfl rfl Try.func77 (by kernel_rfl) rfl #[.agg #[.int .i64 a1_0, .int .i64 a1_1, .float .f64 a1_2, .string a1_3]] rfl (by (try simp only [List.map_toArray, List.map_cons, List.map_nil]); first | done | rfl | (simp only [List.length_drop, List.length_take]; rfl)) ?_; (with_reducible refine (colonnaderef18_class.calls a1_0 a1_1 a1_2 a1_3 t262 _ A4.out).mono ?_); rintro e w64 ⟨rfl, hb⟩; refine ⟨_, rfl, ?_⟩; have n0_ := blkS BK259 hb; have n1_ := blkS BK260 hb; have n2_ := Aside0.mk (below_step (by repeat (first | (with_reducible first | exact HB.out | apply below_alloc | apply pw_below_drewN | apply below_drew1 | refine below_set ?_ GE259.out | refine below_set ?_ GE260.out) | exact HB.out)) hb); clear BK259; clear BK260; clear HB; have BK259 := n0_; have BK260 := n1_; have HB := n2_; clear n0_ n1_ n2_; (try clear hb); (try clear hb2); (try clear hk); (try clear hi)))
        go_ret
        exact ⟨by first | rfl | (simp [errW_none, errW_some] <;> rfl) | (simp [*, errW_none, errW_some] <;> rfl), by repeat (first | (with_reducible first | exact HB.out | apply below_alloc | apply pw_below_drewN | apply below_drew1 | refine below_set ?_ GE259.out | refine below_set ?_ GE260.out) | exact HB.out)⟩
  · rw [if_neg c5] at H
    have c5b0 : (t261 == t262) = false := beq_eq_false_iff_ne.mpr c5
    have c5b1 : (t261 != t262) = true := bne_iff_ne.mpr c5
    replace H := Option.bind_eq_some_iff.mp H
    obtain ⟨t263, A650, H⟩ := H
    replace H : (some t263) = some r := H
    have A65 := Aside0.mk A650
    clear A650
    obtain rfl := Option.some.inj H
    go_enter Try.func54, Try.ntmps54
    go_wp2_with (first | ((with_reducible refine gate_dst (N := 2) rfl ?_); refine box_event ?hg (N := 2) ?hd (cs := #[.int .i64 a0_0, .int .i64 a0_1, .float .f64 a0_2, .string a0_3]) (t := 28) ?hr ?_; (case hd => rfl); (case hg => rfl); (case hr => first | (go_simp; done) | (go_simp; rfl)); intro gb259 hg w66 hbox hb; have n0_ := Aside0.mk (below_step (by repeat (first | (with_reducible first | exact HB.out | apply below_alloc | apply pw_below_drewN | apply below_drew1) | exact HB.out)) hb); have n1_ := Aside0.mk (hbox); have n2_ := Aside0.mk ((by rw [hg]; exact (below_size (by repeat (first | (with_reducible first | exact HB.out | apply below_alloc | apply pw_below_drewN | apply below_drew1) | exact HB.out))) : w.heap.size ≤ gb259)); have n3_ := Aside0.mk ((by rw [hg]; exact (below_size (by repeat (first | (with_reducible first | exact HB.out | apply below_alloc | apply pw_below_drewN | apply below_drew1) | exact HB.out))) : w.heap.size ≤ gb259)); clear HB; have HB := n0_; have BK259 := n1_; have GW259 := n2_; have GE259 := n3_; clear n0_ n1_ n2_ n3_; clear hb hbox hg) | ((with_reducible refine gate_dst (N := 3) rfl ?_); refine box_event ?hg (N := 3) ?hd (cs := #[.int .i64 a1_0, .int .i64 a1_1, .float .f64 a1_2, .string a1_3]) (t := 28) ?hr ?_; (case hd => rfl); (case hg => rfl); (case hr => first | (go_simp; done) | (go_simp; rfl)); intro gb260 hg w67 hbox hb; have n0_ := blkS BK259 hb; have n1_ := Aside0.mk (below_step (by repeat (first | (with_reducible first | exact HB.out | apply below_alloc | apply pw_below_drewN | apply below_drew1 | refine below_set ?_ GE259.out) | exact HB.out)) hb); have n2_ := Aside0.mk (hbox); have n3_ := Aside0.mk ((by rw [hg]; exact (below_size (by repeat (first | (with_reducible first | exact HB.out | apply below_alloc | apply pw_below_drewN | apply below_drew1 | refine below_set ?_ GE259.out) | exact HB.out))) : w.heap.size ≤ gb260)); have n4_ := Aside0.mk ((by rw [hg]; exact (below_size (by repeat (first | (with_reducible first | exact HB.out | apply below_alloc | apply pw_below_drewN | apply below_drew1 | refine below_set ?_ GE259.out) | exact HB.out))) : w.heap.size ≤ gb260)); have n5_ := Aside0.mk ((by rw [hg]; exact Nat.ne_of_lt (blk_lt (g := gb259) (o := .cells #[.int .i64 a0_0, .int .i64 a0_1, .float .f64 a0_2, .string a0_3] 28 (0, 0)) (by (with_reducible repeat (first | refine blk_drewN ?_ _ | refine blk_drew ?_ | refine blk_alloc ?_ _)); exact BK259.out)) : gb259 ≠ gb260)); have n6_ := Aside0.mk ((by rw [hg]; exact Nat.ne_of_gt (blk_lt (g := gb259) (o := .cells #[.int .i64 a0_0, .int .i64 a0_1, .float .f64 a0_2, .string a0_3] 28 (0, 0)) (by (with_reducible repeat (first | refine blk_drewN ?_ _ | refine blk_drew ?_ | refine blk_alloc ?_ _)); exact BK259.out)) : gb260 ≠ gb259)); clear BK259; clear HB; have BK259 := n0_; have HB := n1_; have BK260 := n2_; have GW260 := n3_; have GE260 := n4_; have NB259_260 := n5_; have NB260_259 := n6_; clear n0_ n1_ n2_ n3_ n4_ n5_ n6_; clear hb hbox hg; have hnb68 := NB259_260.out; have hnc68 := NB260_259.out; obtain ⟨hcz69_0, hcz69_1, hcz69_2, hcz69_3⟩ := cells_4 BK259.out; obtain ⟨hfz69_0, hfz69_1, hfz69_2, hfz69_3⟩ := froz_4 BK259.out) | ((with_reducible refine gate_callee (f := 77) rfl ?_); refine goesL_ (some 8) rfl rfl Try.func77 (by kernel_rfl) rfl #[.agg #[.int .i64 a0_0, .int .i64 a0_1, .float .f64 a0_2, .string a0_3]] rfl (by (try simp only [List.map_toArray, List.map_cons, List.map_nil]); first | done | rfl | (simp only [List.length_drop, List.length_take]; rfl)) ?_; (with_reducible refine (colonnaderef18_class.calls a0_0 a0_1 a0_2 a0_3 t261 _ A3.out).mono ?_); rintro e w70 ⟨rfl, hb⟩; refine ⟨_, rfl, ?_⟩; have n0_ := blkS BK259 hb; have n1_ := blkS BK260 hb; have n2_ := Aside0.mk (below_step (by repeat (first | (with_reducible first | exact HB.out | apply below_alloc | apply pw_below_drewN | apply below_drew1 | refine below_set ?_ GE259.out | refine below_set ?_ GE260.out) | exact HB.out)) hb); clear BK259; clear BK260; clear HB; have BK259 := n0_; have BK260 := n1_; have HB := n2_; clear n0_ n1_ n2_; (try clear hb); (try clear hb2); (try clear hk); (try clear hi); obtain ⟨hcz71_0, hcz71_1, hcz71_2, hcz71_3⟩ := cells_4 BK260.out; obtain ⟨hfz71_0, hfz71_1, hfz71_2, hfz71_3⟩ := froz_4 BK260.out) | ((with_reducible refine gate_callee (f := 77) rfl ?_); refine goesL_ (some 10) rfl rfl Try.func77 (by kernel_rfl) rfl #[.agg #[.int .i64 a1_0, .int .i64 a1_1, .float .f64 a1_2, .string a1_3]] rfl (by (try simp only [List.map_toArray, List.map_cons, List.map_nil]); first | done | rfl | (simp only [List.length_drop, List.length_take]; rfl)) ?_; (with_reducible refine (colonnaderef18_class.calls a1_0 a1_1 a1_2 a1_3 t262 _ A4.out).mono ?_); rintro e w72 ⟨rfl, hb⟩; refine ⟨_, rfl, ?_⟩; have n0_ := blkS BK259 hb; have n1_ := blkS BK260 hb; have n2_ := Aside0.mk (below_step (by repeat (first | (with_reducible first | exact HB.out | apply below_alloc | apply pw_below_drewN | apply below_drew1 | refine below_set ?_ GE259.out | refine below_set ?_ GE260.out) | exact HB.out)) hb); clear BK259; clear BK260; clear HB; have BK259 := n0_; have BK260 := n1_; have HB := n2_; clear n0_ n1_ n2_; (try clear hb); (try clear hb2); (try clear hk); (try clear hi)) | ((with_reducible refine gate_callee (f := 78) rfl ?_); refine goesL_ (some 17) rfl rfl Try.func78 (by kernel_rfl) rfl #[.bool (decide (t261 < t262)), .bool true] rfl (by (try simp only [List.map_toArray, List.map_cons, List.map_nil]); first | done | rfl | (simp only [List.length_drop, List.length_take]; rfl)) ?_; (with_reducible refine (colonnaderef18_sign.calls (decide (t261 < t262)) true t263 _ A65.out).mono ?_); rintro e w' ⟨rfl, ⟨nd, rfl⟩⟩; refine ⟨_, rfl, ?_⟩))
    go_ret
    exact ⟨by first | rfl | (simp [errW_none, errW_some] <;> rfl) | (simp [*, errW_none, errW_some] <;> rfl), by repeat (first | (with_reducible first | exact HB.out | apply below_alloc | apply pw_below_drewN | apply below_drew1 | refine below_set ?_ GE259.out | refine below_set ?_ GE260.out) | exact HB.out)⟩

end Go.Proofs.Ytkedejphebfneaa.Pa
end
