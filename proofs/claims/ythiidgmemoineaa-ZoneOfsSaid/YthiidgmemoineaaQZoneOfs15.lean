/- The texts of ZoneOfs, merged: part 15. -/
import Derived.Test.YthiidgmemoineaaQZoneOfs14
import Derived.Test.YthiidgmemoineaaQZoneOfs6
/- lent, kept: values with two marks behind them, as a row of their own: their walks by hand. -/
namespace Go.Proofs.Ythiidgmemoineaa.Pa
open Go.RowKit Go.Proofs.Ythiidgmemoineaa.L Go.Proofs.YthiidgmemoineaaW.PrintWords Go.Proofs.YthiidgmemoineaaW.PrintLast Go.Proofs.YthiidgmemoineaaW.PrintMore
set_option linter.unusedVariables false
set_option linter.unusedSimpArgs false
/-- The marks behind values. -/
def mk2 : List S28 := [⟨71, 0, 0, ⟨#[]⟩⟩, ⟨72, 0, 0, ⟨#[]⟩⟩]
theorem mk2_len (l : List S28) : (l ++ mk2).length = l.length + 2 := by simp [mk2]
theorem C_leftv {W : World} {B : Option Addr} {l : List S28} (h : Kd.C k28 W B (l.length + 2) (l ++ mk2)) : Kd.C k28 W B l.length l := by
  have h2 : Kd.C k28 W B (l ++ mk2).length (l ++ mk2) := by rw [mk2_len]; exact h
  have := Kd.C_take (m := l.length) h2 (by rw [mk2_len]; omega)
  rwa [List.take_left] at this
theorem mark_at (l : List S28) : (rd_T28 (l ++ mk2) (l.length : Int)).f0 = 71 ∧ (rd_T28 (l ++ mk2) ((l.length + 1 : Nat) : Int)).f0 = 72 := by
  unfold rd_T28
  simp [List.getD_eq_getElem?_getD, mk2]
theorem same_v (x : S28) : colonnaderef05_Same.f x.f0 x.f1 x.f2 x.f3 x.f0 x.f1 x.f2 x.f3 = some true := by
  unfold colonnaderef05_Same.f
  simp
theorem el_at {W : World} {ad : Addr} {n : Nat} {l : List S28} (h : Kd.C k28 W (some ad) n l) {j : Nat} (hj : j < n) : W.cell? (ad.add (j * 4)) = some (.int .i64 (rd_T28 l (j : Int)).f0) ∧ W.cell? ⟨(ad.add (j * 4)).block, (ad.add (j * 4)).off + 1, none⟩ = some (.int .i64 (rd_T28 l (j : Int)).f1) ∧ W.cell? ⟨(ad.add (j * 4)).block, (ad.add (j * 4)).off + 2, none⟩ = some (.float .f64 (rd_T28 l (j : Int)).f2) ∧ W.cell? ⟨(ad.add (j * 4)).block, (ad.add (j * 4)).off + 3, none⟩ = some (.string (rd_T28 l (j : Int)).f3) := by
  obtain ⟨ad_, e_, h0, h1, h2, h3⟩ := at_T28 h (j : Int) (by omega) (by omega)
  cases e_
  rw [Int.toNat_natCast] at h0 h1 h2 h3
  exact ⟨h0, h1, h2, h3⟩
set_option maxHeartbeats 4000000 in
set_option maxRecDepth 100000 in
theorem lent_calls (A0 : Option Addr) (c0 : Nat) (l : List S28) (w : World) (hr : Kd.C k28 w A0 l.length l) (hc : l.length ≤ c0) (hl : l.length ≤ 3518437208780) :
    Calls Try.prog 12 #[.slice A0 l.length c0] w fun e w' => ∃ g c, e = .returned (.slice (some ⟨g, 0, none⟩) l.length c) ∧ Kd.R k28 28 w' w.heap.size (fun k => k = g) (.slice (some ⟨g, 0, none⟩) (l.length + 2) c) (l ++ mk2) ∧ Below w.heap.size w w' := by
  have HR0 := Aside0.mk hr
  have HB := Aside0.mk (Below.refl w.heap.size w)
  clear hr
  go_enter Try.func12, Try.ntmps12
  go_wp2_with (first | ((with_reducible refine gate_dst (N := 4) rfl ?_); refine Kd.R_lit (k28) _ 28 ?hg (N := 4) ?hd (xs := ([] : List S28)) (inner := []) (ok := fun _ => True) (okp := fun _ => True) ?hr ?hp (fun _ hk => hk) trivial (Below.refl _ _) (Nat.le_refl _) (by simp) ?_; (case hd => rfl); (case hg => rfl); (case hr => first | (go_simp; done) | (go_simp; rfl)); (case hp => exact Reps.none _ _); intro v4 w_ ho_ hb_ hg_ hnew_; clear hg_ hnew_; have HO := Aside0.mk (Kd.R_lower ho_ (below_size HB.out)); have HB1 := Aside0.mk (below_step HB.out hb_); clear HB; have HB := HB1; clear HB1; clear ho_ hb_) | ((with_reducible refine gate_builtin (b := .append) (xs := #[.tmp 4, .tmp 5]) rfl ?_); at_builtin; refine Kd.R_append_rows (k28) (w0 := w) w.heap.size rfl (.tmp 4) (.tmp 5) 24 28 (.agg #[(.int .i64 0), (.int .i64 0), (.float .f64 0), (.string ⟨#[]⟩)]) 40 rfl Try.underlying24 info28 rfl (by decide) (by omega) v4 ([] : List S28) l _ _ _ (fun _ => True) (fun _ => False) rfl rfl HO.out (Kd.C_below HR0.out HB.out) (fun _ _ h => h) (fun _ h => h.elim) (fun _ _ => trivial) HB.out (below_size HB.out) (by simp; omega) ?_; intro v6 w_ ho_ hb_ hg_ hat_; rw [List.nil_append] at ho_; have HO1 := Aside0.mk (ho_); clear HO; have HO := HO1; clear HO1; have HB1 := Aside0.mk (hb_); clear HB; have HB := HB1; clear HB1; clear ho_ hb_ hg_ hat_) | ((with_reducible refine gate_dst (N := 10) rfl ?_); refine Kd.R_lit (k28) _ 28 ?hg (N := 10) ?hd (xs := ([⟨71, 0, 0, ⟨#[]⟩⟩, ⟨72, 0, 0, ⟨#[]⟩⟩] : List S28)) (inner := [.int .i64 71, .int .i64 0, .float .f64 0, .string ⟨#[]⟩, .int .i64 72, .int .i64 0, .float .f64 0, .string ⟨#[]⟩]) (ok := fun _ => True) (okp := fun _ => True) ?hr ?hp (fun _ hk => hk) trivial (Below.refl _ _) (Nat.le_refl _) (by simp) ?_; (case hd => rfl); (case hg => rfl); (case hr => first | (go_simp; done) | (go_simp; rfl)); (case hp => exact (Reps.c4 (show Kd.M k28 _ _ _ (⟨71, 0, 0, ⟨#[]⟩⟩ : S28) [.int .i64 71, .int .i64 0, .float .f64 0, .string ⟨#[]⟩] from (k28_mkM _ _ _ (⟨71, 0, 0, ⟨#[]⟩⟩ : S28))) (Reps.c4 (show Kd.M k28 _ _ _ (⟨72, 0, 0, ⟨#[]⟩⟩ : S28) [.int .i64 72, .int .i64 0, .float .f64 0, .string ⟨#[]⟩] from (k28_mkM _ _ _ (⟨72, 0, 0, ⟨#[]⟩⟩ : S28))) (Reps.none _ _)))); intro v10 w_ ho_ hb_ hg_ hnew_; clear hg_ hnew_; obtain ⟨A10, c10, e10⟩ := Kd.R_slice ho_; replace e10 : v10 = .slice A10 2 c10 := e10; subst e10; have HM := Aside0.mk (show Kd.C k28 w_ A10 2 mk2 from (Kd.R_reads' ho_).2.2); have HO1 := Aside0.mk (Kd.R_below HO.out hb_); clear HO; have HO := HO1; clear HO1; have HB1 := Aside0.mk (below_step HB.out hb_); clear HB; have HB := HB1; clear HB1; clear ho_ hb_) | ((with_reducible refine gate_builtin (b := .append) (xs := #[.tmp 7, .tmp 10]) rfl ?_); at_builtin; refine Kd.R_append_rows (k28) (w0 := w) w.heap.size rfl (.tmp 7) (.tmp 10) 24 28 (.agg #[(.int .i64 0), (.int .i64 0), (.float .f64 0), (.string ⟨#[]⟩)]) 40 rfl Try.underlying24 info28 rfl (by decide) (by omega) v6 l mk2 _ _ _ (fun _ => True) (fun _ => False) rfl rfl HO.out HM.out (fun _ _ h => h) (fun _ h => h.elim) (fun _ _ => trivial) HB.out (below_size HB.out) (by have := (rfl : mk2.length = 2); omega) ?_; intro v11 w_ ho_ hb_ hg_ hat_; obtain ⟨g, c, e11, _, _, _⟩ := Kd.R_form ho_ (by rw [mk2_len]; omega); rw [mk2_len] at e11; subst e11; have ht_ := Kd.R_mono (Kd.R_tight (by rfl) ho_) (fun k hk => Option.some.inj (show some k = some g from hk)); have HO1 := Aside0.mk (ht_); clear HO; have HO := HO1; clear HO1; clear ht_; have HB1 := Aside0.mk (hb_); clear HB; have HB := HB1; clear HB1; obtain ⟨i0_, hi_, _, hsz_, _⟩ := info_parts info28; have hcut := cut_to (P := Try.prog) 24 28 .i64 Try.underlying24 hi_ (some ⟨g, 0, none⟩) (l.length + 2) c (l.length : Int) (by omega) (by omega) (by have q_ := (Kd.R_reads' HO.out).2.1; omega); clear hi_ hsz_; clear ho_ hb_ hg_ hat_))
  go_ret
  exact ⟨g, c, rfl, HO.out, HB.out⟩
set_option maxHeartbeats 4000000 in
set_option maxRecDepth 100000 in
theorem kept_calls (A B : Option Addr) (c cb : Nat) (l : List S28) (w : World) (hm : l.length + 2 ≤ cb ∧ Kd.C k28 w B (l.length + 2) (l ++ mk2)) (hr : Kd.C k28 w A l.length l) (hc : l.length ≤ c) (hl : l.length ≤ 3518437208780) :
    Calls Try.prog 17 #[.slice B l.length cb, .slice A l.length c] w fun e w' => e = .returned (.bool true) ∧ Below w.heap.size w w' := by
  have hm64 := hm.2.2.1
  have hcap := hm.1
  have HS := Aside0.mk (Std.and (Std.rowC hm.1 hm.2) (Std.and (Std.rowC hc hr) (Std.bel (Below.refl w.heap.size w))))
  clear hr hc hm
  have b0 : ((l.length : Int) != (l.length : Int)) = false := bne_self_eq_false _
  have b00 : (l.length != l.length) = false := bne_self_eq_false _
  go_enter Try.func17, Try.ntmps17
  go_wp2_with (fail)
  clear b0 b00
  go_loopw [5] (fun s5 wr => ∃ j : Nat, j ≤ l.length ∧ s5 = .int .i64 (j : Int) ∧ Std wr (fun W => (l.length + 2 ≤ cb ∧ Kd.C k28 W B (l.length + 2) (l ++ mk2)) ∧ (l.length ≤ c ∧ Kd.C k28 W A l.length l) ∧ Below w.heap.size w W)) (fun i _ => l.length - (intOf i).toNat)
  case atStart => exact ⟨0, by omega, rfl, HS.out⟩
  case round =>
    clear HS
    obtain ⟨j, hj, rfl, HS1⟩ := hrel
    have HS := Aside0.mk HS1
    clear HS1
    by_cases hlt : j < l.length
    · obtain ⟨ad1, rfl, _, _, _, _⟩ := at_T28 (C_leftv HS.out.now.1.2) (j : Int) (by omega) (by omega)
      obtain ⟨ad2, rfl, _, _, _, _⟩ := at_T28 HS.out.now.2.1.2 (j : Int) (by omega) (by omega)
      have p1 : (0 : Int) ≤ (j : Int) := by omega
      have p2 : (j : Int) < (l.length : Int) := by omega
      have p3 : decide ((j : Int) < (l.length : Int)) = true := decide_eq_true p2
      have p4 : decide (j < l.length) = true := decide_eq_true hlt
      have HLT := Aside0.mk hlt
      go_upto_region 6 with (fail)
      have HS1 := Aside0.mk (Std.step HS.out (below_drew1 (Below.refl _ _)))
      refine start_ (n := 10) (S := fun w' => (w'.cell? (ad1.add (j * 4)) = some (.int .i64 (rd_T28 l (j : Int)).f0) ∧ w'.cell? ⟨(ad1.add (j * 4)).block, (ad1.add (j * 4)).off + 1, none⟩ = some (.int .i64 (rd_T28 l (j : Int)).f1) ∧ w'.cell? ⟨(ad1.add (j * 4)).block, (ad1.add (j * 4)).off + 2, none⟩ = some (.float .f64 (rd_T28 l (j : Int)).f2) ∧ w'.cell? ⟨(ad1.add (j * 4)).block, (ad1.add (j * 4)).off + 3, none⟩ = some (.string (rd_T28 l (j : Int)).f3)) ∧ (w'.cell? (ad2.add (j * 4)) = some (.int .i64 (rd_T28 l (j : Int)).f0) ∧ w'.cell? ⟨(ad2.add (j * 4)).block, (ad2.add (j * 4)).off + 1, none⟩ = some (.int .i64 (rd_T28 l (j : Int)).f1) ∧ w'.cell? ⟨(ad2.add (j * 4)).block, (ad2.add (j * 4)).off + 2, none⟩ = some (.float .f64 (rd_T28 l (j : Int)).f2) ∧ w'.cell? ⟨(ad2.add (j * 4)).block, (ad2.add (j * 4)).off + 3, none⟩ = some (.string (rd_T28 l (j : Int)).f3))) (ds := []) #[false, false, false, false, false, false, false, false, false, false] (by kernel_rfl) rfl rfl ⟨el_at (C_leftv HS1.out.now.1.2) HLT.out, el_at HS1.out.now.2.1.2 HLT.out⟩ (fun hHeld => ?_)
      clear HS
      have HS := HS1
      clear HS1
      generalize World.drew _ = z1 at HS hHeld ⊢
      refine pureP #[true, false, false, false, false, false, false, false, false, false] (by kernel_rfl) (i := 0) (N := some 18) ?_
      refine pureP #[true, true, false, false, false, false, false, false, false, false] (by kernel_rfl) (i := 1) (N := some 19) ?_
      refine pureP #[true, true, true, false, false, false, false, false, false, false] (by kernel_rfl) (i := 2) (N := some 20) ?_
      refine pureP #[true, true, true, false, true, false, false, false, false, false] (by kernel_rfl) (i := 4) (N := some 22) ?_
      refine pureP #[true, true, true, false, true, true, false, false, false, false] (by kernel_rfl) (i := 5) (N := some 23) ?_
      refine pureP #[true, true, true, false, true, true, true, false, false, false] (by kernel_rfl) (i := 6) (N := some 24) ?_
      refine takeP #[true, true, true, true, true, true, true, false, false, false] (by kernel_rfl) hHeld (i := 3) (N := some 21) ?_
      refine takeP #[true, true, true, true, true, true, true, true, false, false] (by kernel_rfl) hHeld (i := 7) (N := some 25) ?_
      refine one_ (i := 8) (N := some 26) #[true, true, true, true, true, true, true, true, true, false] rfl rfl (by kernel_rfl) (by decide) (fun K hK => ?_)
      refine goes_ Try.func53 (by kernel_rfl) rfl #[.agg #[.int .i64 (rd_T28 l (j : Int)).f0, .int .i64 (rd_T28 l (j : Int)).f1, .float .f64 (rd_T28 l (j : Int)).f2, .string (rd_T28 l (j : Int)).f3], .agg #[.int .i64 (rd_T28 l (j : Int)).f0, .int .i64 (rd_T28 l (j : Int)).f1, .float .f64 (rd_T28 l (j : Int)).f2, .string (rd_T28 l (j : Int)).f3]] (by rfl) rfl rfl (by (try simp only [List.map_toArray, List.map_cons, List.map_nil]); first | done | rfl) ?_
      refine (colonnaderef05_Same.calls (rd_T28 l (j : Int)).f0 (rd_T28 l (j : Int)).f1 (rd_T28 l (j : Int)).f2 (rd_T28 l (j : Int)).f3 (rd_T28 l (j : Int)).f0 (rd_T28 l (j : Int)).f1 (rd_T28 l (j : Int)).f2 (rd_T28 l (j : Int)).f3 true _ (same_v (rd_T28 l (j : Int)))).mono ?_
      rintro e_ w_ ⟨rfl, hb_⟩
      refine ⟨_, rfl, ?_⟩
      have HS1 := Aside0.mk (Std.step HS.out hb_)
      clear HS hb_
      have HS := HS1
      clear HS1
      refine hK.out _ _ ⟨el_at (C_leftv HS.out.now.1.2) HLT.out, el_at HS.out.now.2.1.2 HLT.out⟩ (fun hHeld => ?_)
      clear hK K
      refine norm_ (a' := ?_) ?_ ?_
      rotate_left
      · show Act.put _ (some 26) _ = _
        simp only [Act.put, List.setIfInBounds_toArray, List.set_cons_zero, List.set_cons_succ, i64_w, i32_w]
        rfl
      refine pureP #[true, true, true, true, true, true, true, true, true, true] (by kernel_rfl) (i := 9) (N := some 27) ?_
      refine done_ (by kernel_rfl) ?_
      clear hHeld
      go_wp2_with (fail)
      go_roundw
      case rel => exact ⟨j + 1, by omega, by go_num, HS.out⟩
      case measure => simp [intOf]; omega
    · obtain rfl : j = l.length := by omega
      have p3 : decide ((l.length : Int) < (l.length : Int)) = false := decide_eq_false (by omega)
      have p4 : decide (l.length < l.length) = false := decide_eq_false (by omega)
      have hm1 := (mark_at l).1
      have hm2 := (mark_at l).2
      obtain ⟨ad, rfl, e1, _, _, _⟩ := at_T28 HS.out.now.1.2 (l.length : Int) (by omega) (by omega)
      obtain ⟨ad_, ead_, e2, _, _, _⟩ := at_T28 HS.out.now.1.2 ((l.length + 1 : Nat) : Int) (by omega) (by omega)
      cases ead_
      rw [hm1, Int.toNat_natCast] at e1
      rw [hm2, Int.toNat_natCast] at e2
      clear hm1 hm2
      have hw1 : wrap64 ((l.length : Int) + 1) = ((l.length + 1 : Nat) : Int) := by rw [wrap64_in (by omega) (by omega)]; omega
      have hw2 : wrap64 ((l.length : Int) + 2) = (l.length : Int) + 2 := wrap64_in (by omega) (by omega)
      have q1 : (0 : Int) ≤ ((l.length + 1 : Nat) : Int) := by omega
      have q2 : ((l.length + 1 : Nat) : Int) < ((l.length + 2 : Nat) : Int) := by omega
      have q3 : decide (l.length + 1 < l.length + 2) = true := decide_eq_true (by omega)
      have q4 : (0 : Int) ≤ (l.length : Int) := by omega
      have q5 : (l.length : Int) < ((l.length + 2 : Nat) : Int) := by omega
      have q6 : decide (l.length < l.length + 2) = true := decide_eq_true (by omega)
      obtain ⟨i0_, hi_, _, hsz_, _⟩ := info_parts info28
      have hcut := cut_cap (P := Try.prog) 24 28 .i64 Try.underlying24 hi_ (some ad) l.length cb ((l.length : Int) + 2) (by omega) (by omega)
      rw [show ((l.length : Int) + 2).toNat = l.length + 2 by omega] at hcut
      clear hi_ hsz_ hj hlt
      go_wp2_with (fail)
      go_ret
      exact ⟨rfl, HS.out.now.2.2⟩
end Go.Proofs.Ythiidgmemoineaa.Pa
