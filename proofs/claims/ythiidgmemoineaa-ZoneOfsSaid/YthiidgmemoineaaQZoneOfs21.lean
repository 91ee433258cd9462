/- The texts of ZoneOfs, merged: part 21. -/
import Derived.Test.YthiidgmemoineaaQZoneOfs12
import Derived.Test.YthiidgmemoineaaQZoneOfs8
/- The document's Compare of two values of one kind (Ints or Texts) and its one: their walks by hand. -/
namespace Go.Proofs.Ythiidgmemoineaa.Pa
open Go.RowKit Go.Proofs.YthiidgmemoineaaW.PrintWords Go.Proofs.YthiidgmemoineaaW.PrintLast Go.Proofs.YthiidgmemoineaaW.PrintMore
set_option linter.unusedVariables false
set_option linter.unusedSimpArgs false
set_option maxHeartbeats 4000000 in
set_option maxRecDepth 100000 in
theorem numbers_int (a1 : Int) (a2 : Nat) (a3 : ByteArray) (b1 : Int) (b2 : Nat) (b3 : ByteArray) (r : Int) (w : World) (h : colonnaderef05_ints.f a1 b1 = some r) :
    Calls Try.prog 96 #[.agg #[.int .i64 1, .int .i64 a1, .float .f64 a2, .string a3], .agg #[.int .i64 1, .int .i64 b1, .float .f64 b2, .string b3]] w fun e w' => e = .returned (.int .i64 r) ∧ Below w.heap.size w w' := by
  have hu28 := Try.underlying28
  have hui := Try.underlying3
  have hu2 := Try.underlying2
  have hus := Try.underlying9
  have HS := Aside0.mk (Std.bel (Below.refl w.heap.size w))
  have H := Aside0.mk h
  clear h
  go_enter Try.func96, Try.ntmps96
  go_upto_region 1 with (first | ((with_reducible refine gate_dst (N := 2) rfl ?_); refine box_event ?hg (N := 2) ?hd (cs := #[.int .i64 1, .int .i64 a1, .float .f64 a2, .string a3]) (t := 28) ?hr ?_; (case hd => rfl); (case hg => rfl); (case hr => first | (go_simp; done) | (go_simp; rfl)); intro g2 hg_ w1 hbox hb_; have HG_ := Aside0.mk hg_; have HX_ := Aside0.mk hbox; have HY_ := Aside0.mk hb_; clear hg_ hbox hb_; have HGg2 := HG_; have HS1 := Aside0.mk (Std.and (Std.blk HX_.out) (Std.step HS.out HY_.out)); clear HS; have HS := HS1; clear HS1; clear HX_ HY_ HG_) | ((with_reducible refine gate_dst (N := 3) rfl ?_); refine box_event ?hg (N := 3) ?hd (cs := #[.int .i64 1, .int .i64 b1, .float .f64 b2, .string b3]) (t := 28) ?hr ?_; (case hd => rfl); (case hg => rfl); (case hr => first | (go_simp; done) | (go_simp; rfl)); intro g3 hg_ w2 hbox hb_; have HG_ := Aside0.mk hg_; have HX_ := Aside0.mk hbox; have HY_ := Aside0.mk hb_; clear hg_ hbox hb_; have HGg3 := HG_; have HS1 := Aside0.mk (Std.and (Std.blk HX_.out) (Std.step HS.out HY_.out)); clear HS; have HS := HS1; clear HS1; clear HX_ HY_ HG_))
  go_wp2_with (first | ((with_reducible refine gate_dst (N := 8) rfl ?_); refine ld_fld rfl 3 _ rfl (.int .i64 1) (by rfl) (HS.out.now.2.1) (by rfl) hui rfl ?_) | ((with_reducible refine gate_dst (N := 26) rfl ?_); refine ld_fld rfl 3 _ rfl (.int .i64 1) (by rfl) (HS.out.now.2.1) (by rfl) hui rfl ?_) | ((with_reducible refine gate_dst (N := 30) rfl ?_); refine gate_guard (by rfl) ?_; refine ld_fld rfl 3 _ rfl (.int .i64 1) (by rfl) (HS.out.now.1) (by rfl) hui rfl ?_) | ((with_reducible refine gate_dst (N := 34) rfl ?_); refine ld_fld rfl 2 _ rfl (.int .i64 a1) (by rfl) (HS.out.now.2.1) (by rfl) hu2 rfl ?_) | ((with_reducible refine gate_dst (N := 36) rfl ?_); refine ld_fld rfl 2 _ rfl (.int .i64 b1) (by rfl) (HS.out.now.1) (by rfl) hu2 rfl ?_) | ((with_reducible refine gate_callee (f := 128) rfl ?_); (with_reducible refine gate_dst (N := 37) rfl ?_); refine goesQ 37 Try.func128 #[.int .i64 a1, .int .i64 b1] ?_; refine (colonnaderef05_ints.calls a1 b1 r _ H.out).mono ?_; rintro e w_ ⟨rfl, hb0_⟩; have hb_ := hb0_.below; clear hb0_; refine ⟨_, rfl, ?_⟩; have HS1 := Aside0.mk (Std.step HS.out hb_); clear HS; have HS := HS1; clear HS1; clear hb_))
  go_ret
  exact ⟨rfl, HS.out.now.2.2⟩
def colonnaderef05_Compare.f (k : Nat) (a0 a1 : Int) (a2 : Nat) (a3 : ByteArray) (b0 b1 : Int) (b2 : Nat) (b3 : ByteArray) : Option Int :=
  (colonnaderef05_May.f k a0 a1 a2 a3).bind fun x => (colonnaderef05_May.f k b0 b1 b2 b3).bind fun y => if x = true then (if y = true then (if a0 = 1 then (if b0 = 1 then (colonnaderef05_ints.f a1 b1).bind fun c => (if c = 0 then some 0 else some c) else none) else (if a0 = 2 then (if b0 = 2 then colonnaderef05_texts.f k a3 b3 else none) else none)) else none) else none
theorem colonnaderef05_Compare.mono : ∀ a0 a1 a2 a3 b0 b1 b2 b3 k, LeO (colonnaderef05_Compare.f k a0 a1 a2 a3 b0 b1 b2 b3) (colonnaderef05_Compare.f (k + 1) a0 a1 a2 a3 b0 b1 b2 b3) := by
  intro a0 a1 a2 a3 b0 b1 b2 b3 k
  unfold colonnaderef05_Compare.f
  exact LeO.bind (colonnaderef05_May.mono _ _ _ _ k) (fun _ => LeO.bind (colonnaderef05_May.mono _ _ _ _ k) (fun _ => LeO.ite (LeO.ite (LeO.ite (LeO.refl _) (LeO.ite (LeO.ite (colonnaderef05_texts.mono _ _ _) (LeO.refl _)) (LeO.refl _))) (LeO.refl _)) (LeO.refl _)))
set_option maxHeartbeats 4000000 in
set_option maxRecDepth 100000 in
theorem colonnaderef05_Compare.calls (k : Nat) (a0 a1 : Int) (a2 : Nat) (a3 : ByteArray) (b0 b1 : Int) (b2 : Nat) (b3 : ByteArray) (r : Int) (w : World) (h : colonnaderef05_Compare.f k a0 a1 a2 a3 b0 b1 b2 b3 = some r) :
    Calls Try.prog 46 #[.agg #[.int .i64 a0, .int .i64 a1, .float .f64 a2, .string a3], .agg #[.int .i64 b0, .int .i64 b1, .float .f64 b2, .string b3]] w fun e w' => e = .returned (.int .i64 r) ∧ Below w.heap.size w w' := by
  have hu28 := Try.underlying28
  have hui := Try.underlying3
  have hu2 := Try.underlying2
  have hus := Try.underlying9
  have HS := Aside0.mk (Std.bel (Below.refl w.heap.size w))
  unfold colonnaderef05_Compare.f at h
  replace h := Option.bind_eq_some_iff.mp h
  obtain ⟨x, A1_, h⟩ := h
  replace h := Option.bind_eq_some_iff.mp h
  obtain ⟨y, A2_, h⟩ := h
  have A1 := Aside0.mk A1_
  have A2 := Aside0.mk A2_
  clear A1_ A2_
  cases x with
  | false => rw [if_neg (by decide)] at h; cases h
  | true =>
  rw [if_pos rfl] at h
  cases y with
  | false => rw [if_neg (by decide)] at h; cases h
  | true =>
  rw [if_pos rfl] at h
  by_cases k1 : a0 = 1
  · subst k1
    rw [if_pos rfl] at h
    by_cases k2 : b0 = 1
    rotate_left
    · rw [if_neg k2] at h; cases h
    subst k2
    rw [if_pos rfl] at h
    replace h := Option.bind_eq_some_iff.mp h
    obtain ⟨c, A3, h⟩ := h
    have H := Aside0.mk A3
    clear A3
    by_cases c0 : c = 0
    · subst c0
      rw [if_pos rfl] at h
      obtain rfl := Option.some.inj h
      go_enter Try.func46, Try.ntmps46
      go_upto_region 1 with (first | ((with_reducible refine gate_dst (N := 2) rfl ?_); refine box_event ?hg (N := 2) ?hd (cs := #[.int .i64 1, .int .i64 a1, .float .f64 a2, .string a3]) (t := 28) ?hr ?_; (case hd => rfl); (case hg => rfl); (case hr => first | (go_simp; done) | (go_simp; rfl)); intro g2 hg_ w1 hbox hb_; have HG_ := Aside0.mk hg_; have HX_ := Aside0.mk hbox; have HY_ := Aside0.mk hb_; clear hg_ hbox hb_; have HGg2 := HG_; have HS1 := Aside0.mk (Std.and (Std.blk HX_.out) (Std.step HS.out HY_.out)); clear HS; have HS := HS1; clear HS1; clear HX_ HY_ HG_) | ((with_reducible refine gate_dst (N := 3) rfl ?_); refine box_event ?hg (N := 3) ?hd (cs := #[.int .i64 1, .int .i64 b1, .float .f64 b2, .string b3]) (t := 28) ?hr ?_; (case hd => rfl); (case hg => rfl); (case hr => first | (go_simp; done) | (go_simp; rfl)); intro g3 hg_ w2 hbox hb_; have HG_ := Aside0.mk hg_; have HX_ := Aside0.mk hbox; have HY_ := Aside0.mk hb_; clear hg_ hbox hb_; have HGg3 := HG_; have HS1 := Aside0.mk (Std.and (Std.blk HX_.out) (Std.step HS.out HY_.out)); clear HS; have HS := HS1; clear HS1; clear HX_ HY_ HG_))
      go_upto_region 9 with (first | ((with_reducible refine gate_dst (N := 8) rfl ?_); refine ld_blk (d := (.struct _)) rfl 28 _ rfl (by rfl) (HS.out.now.2.1) hu28 rfl (by kernel_rfl) ?_) | ((with_reducible refine gate_callee (f := 92) rfl ?_); (with_reducible refine gate_dst (N := 9) rfl ?_); refine goesQ 9 Try.func92 #[.agg #[.int .i64 1, .int .i64 a1, .float .f64 a2, .string a3]] ?_; refine (colonnaderef05_May.calls k 1 a1 a2 a3 true _ A1.out).mono ?_; rintro e w_ ⟨rfl, hb_⟩; refine ⟨_, rfl, ?_⟩; have HS1 := Aside0.mk (Std.step HS.out hb_); clear HS; have HS := HS1; clear HS1; clear hb_) | ((with_reducible refine gate_dst (N := 10) rfl ?_); refine ld_blk (d := (.struct _)) rfl 28 _ rfl (by rfl) (HS.out.now.1) hu28 rfl (by kernel_rfl) ?_) | ((with_reducible refine gate_callee (f := 92) rfl ?_); (with_reducible refine gate_dst (N := 11) rfl ?_); refine goesQ 11 Try.func92 #[.agg #[.int .i64 1, .int .i64 b1, .float .f64 b2, .string b3]] ?_; refine (colonnaderef05_May.calls k 1 b1 b2 b3 true _ A2.out).mono ?_; rintro e w_ ⟨rfl, hb_⟩; refine ⟨_, rfl, ?_⟩; have HS1 := Aside0.mk (Std.step HS.out hb_); clear HS; have HS := HS1; clear HS1; clear hb_))
      have HS1 := Aside0.mk (Std.step HS.out (below_drew1 (Below.refl _ _)))
      refine start_ (n := 5) (S := fun w' => (w'.cell? ⟨g2, 0, none⟩ = some (.int .i64 1) ∧ w'.cell? ⟨g2, 1, none⟩ = some (.int .i64 a1) ∧ w'.cell? ⟨g2, 2, none⟩ = some (.float .f64 a2) ∧ w'.cell? ⟨g2, 3, none⟩ = some (.string a3)) ∧ (w'.cell? ⟨g3, 0, none⟩ = some (.int .i64 1) ∧ w'.cell? ⟨g3, 1, none⟩ = some (.int .i64 b1) ∧ w'.cell? ⟨g3, 2, none⟩ = some (.float .f64 b2) ∧ w'.cell? ⟨g3, 3, none⟩ = some (.string b3))) (ds := []) #[false, false, false, false, false] (by kernel_rfl) rfl rfl ⟨cells_4 (HS1.out.now.2.1), cells_4 (HS1.out.now.1)⟩ (fun hHeld => ?_)
      clear HS
      have HS := HS1
      clear HS1
      generalize World.drew _ = z1 at HS hHeld ⊢
      refine takeP #[true, false, false, false, false] (by kernel_rfl) hHeld (i := 0) (N := some 22) ?_
      refine takeP #[true, false, true, false, false] (by kernel_rfl) hHeld (i := 2) (N := some 24) ?_
      refine one_ (i := 1) (N := some 23) #[true, true, true, false, false] rfl rfl (by kernel_rfl) (by decide) (fun K hK => ?_)
      refine goes_ Try.func93 (by kernel_rfl) rfl #[.agg #[.int .i64 1, .int .i64 a1, .float .f64 a2, .string a3]] (by rfl) rfl rfl (by (try simp only [List.map_toArray, List.map_cons, List.map_nil]); first | done | rfl) ?_
      refine (colonnaderef05_class.calls 1 a1 a2 a3 1 _ rfl).mono ?_
      rintro e_ w_ ⟨rfl, hb_⟩
      refine ⟨_, rfl, ?_⟩
      have HS1 := Aside0.mk (Std.step HS.out hb_)
      clear HS hb_
      have HS := HS1
      clear HS1
      refine hK.out _ _ ⟨cells_4 (HS.out.now.2.1), cells_4 (HS.out.now.1)⟩ (fun hHeld => ?_)
      clear hK K
      refine norm_ (a' := ?_) ?_ ?_
      rotate_left
      · show Act.put _ (some 23) _ = _
        simp only [Act.put, List.setIfInBounds_toArray, List.set_cons_zero, List.set_cons_succ, i64_w, i32_w]
        rfl
      refine one_ (i := 3) (N := some 25) #[true, true, true, true, false] rfl rfl (by kernel_rfl) (by decide) (fun K hK => ?_)
      refine goes_ Try.func93 (by kernel_rfl) rfl #[.agg #[.int .i64 1, .int .i64 b1, .float .f64 b2, .string b3]] (by rfl) rfl rfl (by (try simp only [List.map_toArray, List.map_cons, List.map_nil]); first | done | rfl) ?_
      refine (colonnaderef05_class.calls 1 b1 b2 b3 1 _ rfl).mono ?_
      rintro e_ w_ ⟨rfl, hb_⟩
      refine ⟨_, rfl, ?_⟩
      have HS1 := Aside0.mk (Std.step HS.out hb_)
      clear HS hb_
      have HS := HS1
      clear HS1
      refine hK.out _ _ ⟨cells_4 (HS.out.now.2.1), cells_4 (HS.out.now.1)⟩ (fun hHeld => ?_)
      clear hK K
      refine norm_ (a' := ?_) ?_ ?_
      rotate_left
      · show Act.put _ (some 25) _ = _
        simp only [Act.put, List.setIfInBounds_toArray, List.set_cons_zero, List.set_cons_succ, i64_w, i32_w]
        rfl
      refine pureP #[true, true, true, true, true] (by kernel_rfl) (i := 4) (N := some 26) ?_
      refine done_ (by kernel_rfl) ?_
      clear hHeld
      go_wp2_with (first | ((with_reducible refine gate_dst (N := 32) rfl ?_); refine ld_blk (d := (.struct _)) rfl 28 _ rfl (by rfl) (HS.out.now.2.1) hu28 rfl (by kernel_rfl) ?_) | ((with_reducible refine gate_callee (f := 93) rfl ?_); (with_reducible refine gate_dst (N := 33) rfl ?_); refine goesQ 33 Try.func93 #[.agg #[.int .i64 1, .int .i64 a1, .float .f64 a2, .string a3]] ?_; refine (colonnaderef05_class.calls 1 a1 a2 a3 1 _ rfl).mono ?_; rintro e w_ ⟨rfl, hb_⟩; refine ⟨_, rfl, ?_⟩; have HS1 := Aside0.mk (Std.step HS.out hb_); clear HS; have HS := HS1; clear HS1; clear hb_) | ((with_reducible refine gate_dst (N := 35) rfl ?_); refine ld_blk (d := (.struct _)) rfl 28 _ rfl (by rfl) (HS.out.now.2.1) hu28 rfl (by kernel_rfl) ?_) | ((with_reducible refine gate_callee (f := 93) rfl ?_); (with_reducible refine gate_dst (N := 36) rfl ?_); refine goesQ 36 Try.func93 #[.agg #[.int .i64 1, .int .i64 a1, .float .f64 a2, .string a3]] ?_; refine (colonnaderef05_class.calls 1 a1 a2 a3 1 _ rfl).mono ?_; rintro e w_ ⟨rfl, hb_⟩; refine ⟨_, rfl, ?_⟩; have HS1 := Aside0.mk (Std.step HS.out hb_); clear HS; have HS := HS1; clear HS1; clear hb_) | ((with_reducible refine gate_dst (N := 43) rfl ?_); refine ld_blk (d := (.struct _)) rfl 28 _ rfl (by rfl) (HS.out.now.2.1) hu28 rfl (by kernel_rfl) ?_) | ((with_reducible refine gate_dst (N := 44) rfl ?_); refine ld_blk (d := (.struct _)) rfl 28 _ rfl (by rfl) (HS.out.now.1) hu28 rfl (by kernel_rfl) ?_) | ((with_reducible refine gate_callee (f := 96) rfl ?_); (with_reducible refine gate_dst (N := 45) rfl ?_); refine goesQ 45 Try.func96 #[.agg #[.int .i64 1, .int .i64 a1, .float .f64 a2, .string a3], .agg #[.int .i64 1, .int .i64 b1, .float .f64 b2, .string b3]] ?_; refine (numbers_int a1 a2 a3 b1 b2 b3 0 _ H.out).mono ?_; rintro e w_ ⟨rfl, hb_⟩; refine ⟨_, rfl, ?_⟩; have HS1 := Aside0.mk (Std.step HS.out hb_); clear HS; have HS := HS1; clear HS1; clear hb_) | ((with_reducible refine gate_dst (N := 49) rfl ?_); refine ld_fld rfl 3 _ rfl (.int .i64 1) (by rfl) (HS.out.now.2.1) (by rfl) hui rfl ?_) | ((with_reducible refine gate_dst (N := 51) rfl ?_); refine ld_fld rfl 3 _ rfl (.int .i64 1) (by rfl) (HS.out.now.1) (by rfl) hui rfl ?_) | ((with_reducible refine gate_callee (f := 94) rfl ?_); (with_reducible refine gate_dst (N := 52) rfl ?_); refine goesQ 52 Try.func94 #[.int .i64 1, .int .i64 1] ?_; refine (colonnaderef05_less.calls 1 1 0 _ rfl).mono ?_; rintro e w_ ⟨rfl, hb0_⟩; have hb_ := hb0_.below; clear hb0_; refine ⟨_, rfl, ?_⟩; have HS1 := Aside0.mk (Std.step HS.out hb_); clear HS; have HS := HS1; clear HS1; clear hb_))
      go_ret
      exact ⟨rfl, HS.out.now.2.2⟩
    · rw [if_neg c0] at h
      obtain rfl := Option.some.inj h
      have c0b : (c == 0) = false := beq_eq_false_iff_ne.mpr c0
      clear c0
      go_enter Try.func46, Try.ntmps46
      go_upto_region 1 with (first | ((with_reducible refine gate_dst (N := 2) rfl ?_); refine box_event ?hg (N := 2) ?hd (cs := #[.int .i64 1, .int .i64 a1, .float .f64 a2, .string a3]) (t := 28) ?hr ?_; (case hd => rfl); (case hg => rfl); (case hr => first | (go_simp; done) | (go_simp; rfl)); intro g2 hg_ w1 hbox hb_; have HG_ := Aside0.mk hg_; have HX_ := Aside0.mk hbox; have HY_ := Aside0.mk hb_; clear hg_ hbox hb_; have HGg2 := HG_; have HS1 := Aside0.mk (Std.and (Std.blk HX_.out) (Std.step HS.out HY_.out)); clear HS; have HS := HS1; clear HS1; clear HX_ HY_ HG_) | ((with_reducible refine gate_dst (N := 3) rfl ?_); refine box_event ?hg (N := 3) ?hd (cs := #[.int .i64 1, .int .i64 b1, .float .f64 b2, .string b3]) (t := 28) ?hr ?_; (case hd => rfl); (case hg => rfl); (case hr => first | (go_simp; done) | (go_simp; rfl)); intro g3 hg_ w2 hbox hb_; have HG_ := Aside0.mk hg_; have HX_ := Aside0.mk hbox; have HY_ := Aside0.mk hb_; clear hg_ hbox hb_; have HGg3 := HG_; have HS1 := Aside0.mk (Std.and (Std.blk HX_.out) (Std.step HS.out HY_.out)); clear HS; have HS := HS1; clear HS1; clear HX_ HY_ HG_))
      go_upto_region 9 with (first | ((with_reducible refine gate_dst (N := 8) rfl ?_); refine ld_blk (d := (.struct _)) rfl 28 _ rfl (by rfl) (HS.out.now.2.1) hu28 rfl (by kernel_rfl) ?_) | ((with_reducible refine gate_callee (f := 92) rfl ?_); (with_reducible refine gate_dst (N := 9) rfl ?_); refine goesQ 9 Try.func92 #[.agg #[.int .i64 1, .int .i64 a1, .float .f64 a2, .string a3]] ?_; refine (colonnaderef05_May.calls k 1 a1 a2 a3 true _ A1.out).mono ?_; rintro e w_ ⟨rfl, hb_⟩; refine ⟨_, rfl, ?_⟩; have HS1 := Aside0.mk (Std.step HS.out hb_); clear HS; have HS := HS1; clear HS1; clear hb_) | ((with_reducible refine gate_dst (N := 10) rfl ?_); refine ld_blk (d := (.struct _)) rfl 28 _ rfl (by rfl) (HS.out.now.1) hu28 rfl (by kernel_rfl) ?_) | ((with_reducible refine gate_callee (f := 92) rfl ?_); (with_reducible refine gate_dst (N := 11) rfl ?_); refine goesQ 11 Try.func92 #[.agg #[.int .i64 1, .int .i64 b1, .float .f64 b2, .string b3]] ?_; refine (colonnaderef05_May.calls k 1 b1 b2 b3 true _ A2.out).mono ?_; rintro e w_ ⟨rfl, hb_⟩; refine ⟨_, rfl, ?_⟩; have HS1 := Aside0.mk (Std.step HS.out hb_); clear HS; have HS := HS1; clear HS1; clear hb_))
      have HS1 := Aside0.mk (Std.step HS.out (below_drew1 (Below.refl _ _)))
      refine start_ (n := 5) (S := fun w' => (w'.cell? ⟨g2, 0, none⟩ = some (.int .i64 1) ∧ w'.cell? ⟨g2, 1, none⟩ = some (.int .i64 a1) ∧ w'.cell? ⟨g2, 2, none⟩ = some (.float .f64 a2) ∧ w'.cell? ⟨g2, 3, none⟩ = some (.string a3)) ∧ (w'.cell? ⟨g3, 0, none⟩ = some (.int .i64 1) ∧ w'.cell? ⟨g3, 1, none⟩ = some (.int .i64 b1) ∧ w'.cell? ⟨g3, 2, none⟩ = some (.float .f64 b2) ∧ w'.cell? ⟨g3, 3, none⟩ = some (.string b3))) (ds := []) #[false, false, false, false, false] (by kernel_rfl) rfl rfl ⟨cells_4 (HS1.out.now.2.1), cells_4 (HS1.out.now.1)⟩ (fun hHeld => ?_)
      clear HS
      have HS := HS1
      clear HS1
      generalize World.drew _ = z1 at HS hHeld ⊢
      refine takeP #[true, false, false, false, false] (by kernel_rfl) hHeld (i := 0) (N := some 22) ?_
      refine takeP #[true, false, true, false, false] (by kernel_rfl) hHeld (i := 2) (N := some 24) ?_
      refine one_ (i := 1) (N := some 23) #[true, true, true, false, false] rfl rfl (by kernel_rfl) (by decide) (fun K hK => ?_)
      refine goes_ Try.func93 (by kernel_rfl) rfl #[.agg #[.int .i64 1, .int .i64 a1, .float .f64 a2, .string a3]] (by rfl) rfl rfl (by (try simp only [List.map_toArray, List.map_cons, List.map_nil]); first | done | rfl) ?_
      refine (colonnaderef05_class.calls 1 a1 a2 a3 1 _ rfl).mono ?_
      rintro e_ w_ ⟨rfl, hb_⟩
      refine ⟨_, rfl, ?_⟩
      have HS1 := Aside0.mk (Std.step HS.out hb_)
      clear HS hb_
      have HS := HS1
      clear HS1
      refine hK.out _ _ ⟨cells_4 (HS.out.now.2.1), cells_4 (HS.out.now.1)⟩ (fun hHeld => ?_)
      clear hK K
      refine norm_ (a' := ?_) ?_ ?_
      rotate_left
      · show Act.put _ (some 23) _ = _
        simp only [Act.put, List.setIfInBounds_toArray, List.set_cons_zero, List.set_cons_succ, i64_w, i32_w]
        rfl
      refine one_ (i := 3) (N := some 25) #[true, true, true, true, false] rfl rfl (by kernel_rfl) (by decide) (fun K hK => ?_)
      refine goes_ Try.func93 (by kernel_rfl) rfl #[.agg #[.int .i64 1, .int .i64 b1, .float .f64 b2, .string b3]] (by rfl) rfl rfl (by (try simp only [List.map_toArray, List.map_cons, List.map_nil]); first | done | rfl) ?_
      refine (colonnaderef05_class.calls 1 b1 b2 b3 1 _ rfl).mono ?_
      rintro e_ w_ ⟨rfl, hb_⟩
      refine ⟨_, rfl, ?_⟩
      have HS1 := Aside0.mk (Std.step HS.out hb_)
      clear HS hb_
      have HS := HS1
      clear HS1
      refine hK.out _ _ ⟨cells_4 (HS.out.now.2.1), cells_4 (HS.out.now.1)⟩ (fun hHeld => ?_)
      clear hK K
      refine norm_ (a' := ?_) ?_ ?_
      rotate_left
      · show Act.put _ (some 25) _ = _
        simp only [Act.put, List.setIfInBounds_toArray, List.set_cons_zero, List.set_cons_succ, i64_w, i32_w]
        rfl
      refine pureP #[true, true, true, true, true] (by kernel_rfl) (i := 4) (N := some 26) ?_
      refine done_ (by kernel_rfl) ?_
      clear hHeld
      go_wp2_with (first | ((with_reducible refine gate_dst (N := 32) rfl ?_); refine ld_blk (d := (.struct _)) rfl 28 _ rfl (by rfl) (HS.out.now.2.1) hu28 rfl (by kernel_rfl) ?_) | ((with_reducible refine gate_callee (f := 93) rfl ?_); (with_reducible refine gate_dst (N := 33) rfl ?_); refine goesQ 33 Try.func93 #[.agg #[.int .i64 1, .int .i64 a1, .float .f64 a2, .string a3]] ?_; refine (colonnaderef05_class.calls 1 a1 a2 a3 1 _ rfl).mono ?_; rintro e w_ ⟨rfl, hb_⟩; refine ⟨_, rfl, ?_⟩; have HS1 := Aside0.mk (Std.step HS.out hb_); clear HS; have HS := HS1; clear HS1; clear hb_) | ((with_reducible refine gate_dst (N := 35) rfl ?_); refine ld_blk (d := (.struct _)) rfl 28 _ rfl (by rfl) (HS.out.now.2.1) hu28 rfl (by kernel_rfl) ?_) | ((with_reducible refine gate_callee (f := 93) rfl ?_); (with_reducible refine gate_dst (N := 36) rfl ?_); refine goesQ 36 Try.func93 #[.agg #[.int .i64 1, .int .i64 a1, .float .f64 a2, .string a3]] ?_; refine (colonnaderef05_class.calls 1 a1 a2 a3 1 _ rfl).mono ?_; rintro e w_ ⟨rfl, hb_⟩; refine ⟨_, rfl, ?_⟩; have HS1 := Aside0.mk (Std.step HS.out hb_); clear HS; have HS := HS1; clear HS1; clear hb_) | ((with_reducible refine gate_dst (N := 43) rfl ?_); refine ld_blk (d := (.struct _)) rfl 28 _ rfl (by rfl) (HS.out.now.2.1) hu28 rfl (by kernel_rfl) ?_) | ((with_reducible refine gate_dst (N := 44) rfl ?_); refine ld_blk (d := (.struct _)) rfl 28 _ rfl (by rfl) (HS.out.now.1) hu28 rfl (by kernel_rfl) ?_) | ((with_reducible refine gate_callee (f := 96) rfl ?_); (with_reducible refine gate_dst (N := 45) rfl ?_); refine goesQ 45 Try.func96 #[.agg #[.int .i64 1, .int .i64 a1, .float .f64 a2, .string a3], .agg #[.int .i64 1, .int .i64 b1, .float .f64 b2, .string b3]] ?_; refine (numbers_int a1 a2 a3 b1 b2 b3 c _ H.out).mono ?_; rintro e w_ ⟨rfl, hb_⟩; refine ⟨_, rfl, ?_⟩; have HS1 := Aside0.mk (Std.step HS.out hb_); clear HS; have HS := HS1; clear HS1; clear hb_) | ((with_reducible refine gate_dst (N := 49) rfl ?_); refine ld_fld rfl 3 _ rfl (.int .i64 1) (by rfl) (HS.out.now.2.1) (by rfl) hui rfl ?_) | ((with_reducible refine gate_dst (N := 51) rfl ?_); refine ld_fld rfl 3 _ rfl (.int .i64 1) (by rfl) (HS.out.now.1) (by rfl) hui rfl ?_) | ((with_reducible refine gate_callee (f := 94) rfl ?_); (with_reducible refine gate_dst (N := 52) rfl ?_); refine goesQ 52 Try.func94 #[.int .i64 1, .int .i64 1] ?_; refine (colonnaderef05_less.calls 1 1 0 _ rfl).mono ?_; rintro e w_ ⟨rfl, hb0_⟩; have hb_ := hb0_.below; clear hb0_; refine ⟨_, rfl, ?_⟩; have HS1 := Aside0.mk (Std.step HS.out hb_); clear HS; have HS := HS1; clear HS1; clear hb_))
      go_ret
      exact ⟨rfl, HS.out.now.2.2⟩
  · rw [if_neg k1] at h
    by_cases k2 : a0 = 2
    rotate_left
    · rw [if_neg k2] at h; cases h
    subst k2
    rw [if_pos rfl] at h
    by_cases k3 : b0 = 2
    rotate_left
    · rw [if_neg k3] at h; cases h
    subst k3
    rw [if_pos rfl] at h
    have H := Aside0.mk h
    clear h k1
    go_enter Try.func46, Try.ntmps46
    go_upto_region 1 with (first | ((with_reducible refine gate_dst (N := 2) rfl ?_); refine box_event ?hg (N := 2) ?hd (cs := #[.int .i64 2, .int .i64 a1, .float .f64 a2, .string a3]) (t := 28) ?hr ?_; (case hd => rfl); (case hg => rfl); (case hr => first | (go_simp; done) | (go_simp; rfl)); intro g2 hg_ w1 hbox hb_; have HG_ := Aside0.mk hg_; have HX_ := Aside0.mk hbox; have HY_ := Aside0.mk hb_; clear hg_ hbox hb_; have HGg2 := HG_; have HS1 := Aside0.mk (Std.and (Std.blk HX_.out) (Std.step HS.out HY_.out)); clear HS; have HS := HS1; clear HS1; clear HX_ HY_ HG_) | ((with_reducible refine gate_dst (N := 3) rfl ?_); refine box_event ?hg (N := 3) ?hd (cs := #[.int .i64 2, .int .i64 b1, .float .f64 b2, .string b3]) (t := 28) ?hr ?_; (case hd => rfl); (case hg => rfl); (case hr => first | (go_simp; done) | (go_simp; rfl)); intro g3 hg_ w2 hbox hb_; have HG_ := Aside0.mk hg_; have HX_ := Aside0.mk hbox; have HY_ := Aside0.mk hb_; clear hg_ hbox hb_; have HGg3 := HG_; have HS1 := Aside0.mk (Std.and (Std.blk HX_.out) (Std.step HS.out HY_.out)); clear HS; have HS := HS1; clear HS1; clear HX_ HY_ HG_))
    go_upto_region 9 with (first | ((with_reducible refine gate_dst (N := 8) rfl ?_); refine ld_blk (d := (.struct _)) rfl 28 _ rfl (by rfl) (HS.out.now.2.1) hu28 rfl (by kernel_rfl) ?_) | ((with_reducible refine gate_callee (f := 92) rfl ?_); (with_reducible refine gate_dst (N := 9) rfl ?_); refine goesQ 9 Try.func92 #[.agg #[.int .i64 2, .int .i64 a1, .float .f64 a2, .string a3]] ?_; refine (colonnaderef05_May.calls k 2 a1 a2 a3 true _ A1.out).mono ?_; rintro e w_ ⟨rfl, hb_⟩; refine ⟨_, rfl, ?_⟩; have HS1 := Aside0.mk (Std.step HS.out hb_); clear HS; have HS := HS1; clear HS1; clear hb_) | ((with_reducible refine gate_dst (N := 10) rfl ?_); refine ld_blk (d := (.struct _)) rfl 28 _ rfl (by rfl) (HS.out.now.1) hu28 rfl (by kernel_rfl) ?_) | ((with_reducible refine gate_callee (f := 92) rfl ?_); (with_reducible refine gate_dst (N := 11) rfl ?_); refine goesQ 11 Try.func92 #[.agg #[.int .i64 2, .int .i64 b1, .float .f64 b2, .string b3]] ?_; refine (colonnaderef05_May.calls k 2 b1 b2 b3 true _ A2.out).mono ?_; rintro e w_ ⟨rfl, hb_⟩; refine ⟨_, rfl, ?_⟩; have HS1 := Aside0.mk (Std.step HS.out hb_); clear HS; have HS := HS1; clear HS1; clear hb_))
    have HS1 := Aside0.mk (Std.step HS.out (below_drew1 (Below.refl _ _)))
    refine start_ (n := 5) (S := fun w' => (w'.cell? ⟨g2, 0, none⟩ = some (.int .i64 2) ∧ w'.cell? ⟨g2, 1, none⟩ = some (.int .i64 a1) ∧ w'.cell? ⟨g2, 2, none⟩ = some (.float .f64 a2) ∧ w'.cell? ⟨g2, 3, none⟩ = some (.string a3)) ∧ (w'.cell? ⟨g3, 0, none⟩ = some (.int .i64 2) ∧ w'.cell? ⟨g3, 1, none⟩ = some (.int .i64 b1) ∧ w'.cell? ⟨g3, 2, none⟩ = some (.float .f64 b2) ∧ w'.cell? ⟨g3, 3, none⟩ = some (.string b3))) (ds := []) #[false, false, false, false, false] (by kernel_rfl) rfl rfl ⟨cells_4 (HS1.out.now.2.1), cells_4 (HS1.out.now.1)⟩ (fun hHeld => ?_)
    clear HS
    have HS := HS1
    clear HS1
    generalize World.drew _ = z1 at HS hHeld ⊢
    refine takeP #[true, false, false, false, false] (by kernel_rfl) hHeld (i := 0) (N := some 22) ?_
    refine takeP #[true, false, true, false, false] (by kernel_rfl) hHeld (i := 2) (N := some 24) ?_
    refine one_ (i := 1) (N := some 23) #[true, true, true, false, false] rfl rfl (by kernel_rfl) (by decide) (fun K hK => ?_)
    refine goes_ Try.func93 (by kernel_rfl) rfl #[.agg #[.int .i64 2, .int .i64 a1, .float .f64 a2, .string a3]] (by rfl) rfl rfl (by (try simp only [List.map_toArray, List.map_cons, List.map_nil]); first | done | rfl) ?_
    refine (colonnaderef05_class.calls 2 a1 a2 a3 2 _ rfl).mono ?_
    rintro e_ w_ ⟨rfl, hb_⟩
    refine ⟨_, rfl, ?_⟩
    have HS1 := Aside0.mk (Std.step HS.out hb_)
    clear HS hb_
    have HS := HS1
    clear HS1
    refine hK.out _ _ ⟨cells_4 (HS.out.now.2.1), cells_4 (HS.out.now.1)⟩ (fun hHeld => ?_)
    clear hK K
    refine norm_ (a' := ?_) ?_ ?_
    rotate_left
    · show Act.put _ (some 23) _ = _
      simp only [Act.put, List.setIfInBounds_toArray, List.set_cons_zero, List.set_cons_succ, i64_w, i32_w]
      rfl
    refine one_ (i := 3) (N := some 25) #[true, true, true, true, false] rfl rfl (by kernel_rfl) (by decide) (fun K hK => ?_)
    refine goes_ Try.func93 (by kernel_rfl) rfl #[.agg #[.int .i64 2, .int .i64 b1, .float .f64 b2, .string b3]] (by rfl) rfl rfl (by (try simp only [List.map_toArray, List.map_cons, List.map_nil]); first | done | rfl) ?_
    refine (colonnaderef05_class.calls 2 b1 b2 b3 2 _ rfl).mono ?_
    rintro e_ w_ ⟨rfl, hb_⟩
    refine ⟨_, rfl, ?_⟩
    have HS1 := Aside0.mk (Std.step HS.out hb_)
    clear HS hb_
    have HS := HS1
    clear HS1
    refine hK.out _ _ ⟨cells_4 (HS.out.now.2.1), cells_4 (HS.out.now.1)⟩ (fun hHeld => ?_)
    clear hK K
    refine norm_ (a' := ?_) ?_ ?_
    rotate_left
    · show Act.put _ (some 25) _ = _
      simp only [Act.put, List.setIfInBounds_toArray, List.set_cons_zero, List.set_cons_succ, i64_w, i32_w]
      rfl
    refine pureP #[true, true, true, true, true] (by kernel_rfl) (i := 4) (N := some 26) ?_
    refine done_ (by kernel_rfl) ?_
    clear hHeld
    go_wp2_with (first | ((with_reducible refine gate_dst (N := 32) rfl ?_); refine ld_blk (d := (.struct _)) rfl 28 _ rfl (by rfl) (HS.out.now.2.1) hu28 rfl (by kernel_rfl) ?_) | ((with_reducible refine gate_callee (f := 93) rfl ?_); (with_reducible refine gate_dst (N := 33) rfl ?_); refine goesQ 33 Try.func93 #[.agg #[.int .i64 2, .int .i64 a1, .float .f64 a2, .string a3]] ?_; refine (colonnaderef05_class.calls 2 a1 a2 a3 2 _ rfl).mono ?_; rintro e w_ ⟨rfl, hb_⟩; refine ⟨_, rfl, ?_⟩; have HS1 := Aside0.mk (Std.step HS.out hb_); clear HS; have HS := HS1; clear HS1; clear hb_) | ((with_reducible refine gate_dst (N := 35) rfl ?_); refine ld_blk (d := (.struct _)) rfl 28 _ rfl (by rfl) (HS.out.now.2.1) hu28 rfl (by kernel_rfl) ?_) | ((with_reducible refine gate_callee (f := 93) rfl ?_); (with_reducible refine gate_dst (N := 36) rfl ?_); refine goesQ 36 Try.func93 #[.agg #[.int .i64 2, .int .i64 a1, .float .f64 a2, .string a3]] ?_; refine (colonnaderef05_class.calls 2 a1 a2 a3 2 _ rfl).mono ?_; rintro e w_ ⟨rfl, hb_⟩; refine ⟨_, rfl, ?_⟩; have HS1 := Aside0.mk (Std.step HS.out hb_); clear HS; have HS := HS1; clear HS1; clear hb_) | ((with_reducible refine gate_dst (N := 39) rfl ?_); refine ld_fld rfl 9 _ rfl (.string a3) (by rfl) (HS.out.now.2.1) (by rfl) hus rfl ?_) | ((with_reducible refine gate_dst (N := 41) rfl ?_); refine ld_fld rfl 9 _ rfl (.string b3) (by rfl) (HS.out.now.1) (by rfl) hus rfl ?_) | ((with_reducible refine gate_callee (f := 95) rfl ?_); (with_reducible refine gate_dst (N := 42) rfl ?_); refine goesQ 42 Try.func95 #[.string a3, .string b3] ?_; refine (colonnaderef05_texts.calls k a3 b3 r _ H.out).mono ?_; rintro e w_ ⟨rfl, hb0_⟩; have hb_ := hb0_.below; clear hb0_; refine ⟨_, rfl, ?_⟩; have HS1 := Aside0.mk (Std.step HS.out hb_); clear HS; have HS := HS1; clear HS1; clear hb_))
    go_ret
    exact ⟨rfl, HS.out.now.2.2⟩
end Go.Proofs.Ythiidgmemoineaa.Pa
