/- The texts of ZoneBack, merged: part 51. -/
import Derived.Test.YthiidgmemoineaaQZoneBack34
import Derived.Test.YthiidgmemoineaaQZoneBack5
import Derived.Test.YthiidgmemoineaaQZoneBack41
import Derived.Test.YthiidgmemoineaaQZoneBack1
import Derived.Test.YthiidgmemoineaaQZoneBack45
import Derived.Deep.DeepCutAuto
import Derived.Test.YthiidgmemoineaaQZoneBack49
import Derived.Test.YthiidgmemoineaaQZoneBack39
import Derived.Test.YthiidgmemoineaaQZoneBack43
import Derived.Test.YthiidgmemoineaaQZoneBack50
/- awake: closed. -/
namespace Go.Proofs.Ythiidgmemoineaa.Pa
open Go.Proofs.Ythiidgmemoineaa.L Go.RowKit Go.Proofs.YthiidgmemoineaaW.PrintWords Go.Proofs.YthiidgmemoineaaW.PrintLast Go.Proofs.YthiidgmemoineaaW.PrintMore
set_option linter.unusedVariables false
set_option linter.unusedSimpArgs false
def vals4 : List S28 := [⟨1, 3, 0, ⟨#[]⟩⟩, ⟨0, 0, 0, ⟨#[]⟩⟩, ⟨1, -1, 0, ⟨#[]⟩⟩, ⟨1, 9, 0, ⟨#[]⟩⟩]
def blm : List Int := [96, 128, 32, 148, 20, 0, 16, 160]
theorem of_f : zone_Of.f 40 ⟨#[105]⟩ 1 true vals4 8 = some (1, 1, -1, 0, ⟨#[]⟩, 1, 9, 0, ⟨#[]⟩, blm, 0) := by kernel_rfl
theorem pu_f : zone_Put.f 40 ⟨#[105]⟩ 1 true 1 1 (-1) 0 ⟨#[]⟩ 1 9 0 ⟨#[]⟩ [] = some ([1, 1, 1, 18, 0], 0) := by kernel_rfl
theorem op_f : cursor_Open.f [1, 1, 1, 18, 0] = some ([1, 1, 1, 18, 0], 0, 0) := by kernel_rfl
theorem tk_f : zone_Take.f 40 ⟨#[105]⟩ 1 true [1, 1, 1, 18, 0] 0 0 = some (1, 1, -1, 0, ⟨#[]⟩, 1, 9, 0, ⟨#[]⟩, [], 0, 5, 0) := by kernel_rfl
theorem sm_f : colonnaderef14_Same.f 1 1 (-1) 0 ⟨#[]⟩ 1 9 0 ⟨#[]⟩ [] 1 1 (-1) 0 ⟨#[]⟩ 1 9 0 ⟨#[]⟩ [] = some true := by kernel_rfl
theorem so1_f : zone_Sound.f 40 ⟨#[105]⟩ 1 true vals4 1 1 (-1) 0 ⟨#[]⟩ 1 9 0 ⟨#[]⟩ blm = some true := by kernel_rfl
theorem so2_f : zone_Sound.f 40 ⟨#[105]⟩ 1 true vals4 1 1 (-1) 0 ⟨#[]⟩ 1 9 0 ⟨#[]⟩ [] = some true := by kernel_rfl
theorem so3_f : zone_Sound.f 40 ⟨#[105]⟩ 1 true vals4 1 1 0 0 ⟨#[]⟩ 1 9 0 ⟨#[]⟩ [] = some false := by kernel_rfl
theorem ma1_f : zone_May.f 40 ⟨#[105]⟩ 1 true 4 1 1 (-1) 0 ⟨#[]⟩ 1 9 0 ⟨#[]⟩ blm = some true := by kernel_rfl
theorem ma2_f : zone_May.f 40 ⟨#[105]⟩ 1 true 1 1 1 (-1) 0 ⟨#[]⟩ 1 9 0 ⟨#[]⟩ blm = some false := by kernel_rfl
theorem str5 : strOfNums [1, 1, 1, 18, 0] = ⟨#[1, 1, 1, 18, 0]⟩ := by kernel_rfl
def AwQ (w : World) (g1 g3 g5 : Nat) (Av Az Ab : Option Addr) (cv cz cb : Nat) (W : World) : Prop :=
 (5 ≤ cb ∧ Kd.C (Kd.int .u8) W Ab 5 [1, 1, 1, 18, 0]) ∧ W.heap[g5]? = some (.cells #[.int .i64 1, .int .i64 1, .int .i64 (-1), .float .f64 0, .string ⟨#[]⟩, .int .i64 1, .int .i64 9, .float .f64 0, .string ⟨#[]⟩, .slice none 0 0] 31 (0, 0)) ∧ W.heap[g3]? = some (.cells #[.int .i64 1, .int .i64 1, .int .i64 (-1), .float .f64 0, .string ⟨#[]⟩, .int .i64 1, .int .i64 9, .float .f64 0, .string ⟨#[]⟩, .slice Az 8 cz] 31 (0, 0)) ∧ (8 ≤ cz ∧ Kd.C (Kd.int .u8) W Az 8 blm) ∧ (4 ≤ cv ∧ Kd.C k28 W Av 4 vals4) ∧ W.heap[g1]? = some (.cells #[.string ⟨#[105]⟩, .int .i64 1, .bool true] 23 (0, 0)) ∧ Below w.heap.size w W
theorem C_at {w W : World} {g1 g3 g5 : Nat} {Av Az Ab : Option Addr} {cv cz cb : Nat} (h : Std W (AwQ w g1 g3 g5 Av Az Ab cv cz cb)) : 5 ≤ cb ∧ Kd.C (Kd.int .u8) W Ab 5 [1, 1, 1, 18, 0] := h.now.1
def colonnadelaw14_awake.f (k : Nat) : Option Bool := some true
theorem colonnadelaw14_awake.mono : ∀ k, LeO (colonnadelaw14_awake.f k) (colonnadelaw14_awake.f (k + 1)) := fun _ => LeO.refl _
set_option maxRecDepth 100000 in
set_option maxHeartbeats 8000000 in
theorem colonnadelaw14_awake.calls (k : Nat) (r : Bool) (w : World) (h : colonnadelaw14_awake.f k = some r) :
  Calls Try.prog 35 #[] w fun e w' => e = .returned (.bool r) ∧ Below w.heap.size w w' := by
 obtain rfl := Option.some.inj h
 clear h
 have e00 : feq 0 0 = true := by kernel_rfl
 have hu23 := Try.underlying23
 have hu31 := Try.underlying31
 have HS := Aside0.mk (Std.bel (Below.refl w.heap.size w))
 go_enter Try.func35, Try.ntmps35
 go_upto_region 2 with (first | ((with_reducible refine gate_dst (N := 1) rfl ?_); refine box_event ?hg (N := 1) ?hd (cs := #[.string ⟨#[]⟩, .int .i64 0, .bool false]) (t := 23) ?hr ?_; (case hd => rfl); (case hg => rfl); (case hr => first | (go_simp; done) | (go_simp; rfl)); intro g1 hg_ w1 hbox hb_; have HG_ := Aside0.mk hg_; have HX_ := Aside0.mk hbox; have HY_ := Aside0.mk hb_; clear hg_ hbox hb_) | ((with_reducible refine gate_store (p := 1) rfl ?_); refine st_blk rfl 23 _ _ rfl rfl #[.string ⟨#[105]⟩, .int .i64 1, .bool true] (by rfl) (by rfl) HX_.out (by rfl) (by kernel_rfl) (by simp [Value.oneCell']) ?_; intro w2 hbox2 ho_; have hb2_ := Only.belowW ho_ HY_.out (Nat.le_of_eq HG_.out.symm); have HGg1 := HG_; clear HX_ HY_ HG_ ho_; have HS1 := Aside0.mk (Std.and (Std.blk hbox2) (Std.step HS.out hb2_)); clear HS; have HS := HS1; clear HS1; clear hb2_ hbox2))
 go_upto_region 3 with ((with_reducible refine gate_dst (N := 16) rfl ?_); refine Kd.R_lit k28 _ 28 ?hg (N := 16) ?hd (xs := (vals4 : List S28)) (inner := [.int .i64 1, .int .i64 3, .float .f64 0, .string ⟨#[]⟩, .int .i64 0, .int .i64 0, .float .f64 0, .string ⟨#[]⟩, .int .i64 1, .int .i64 (-1), .float .f64 0, .string ⟨#[]⟩, .int .i64 1, .int .i64 9, .float .f64 0, .string ⟨#[]⟩]) (ok := fun _ => True) (okp := fun _ => True) ?hr ?hp (fun _ hk => hk) trivial (Below.refl _ _) (Nat.le_refl _) (by show 4 ≤ 9223372036854775807; omega) ?_; (case hd => rfl); (case hg => rfl); (case hr => first | (go_simp; done) | (go_simp; rfl)); (case hp => exact (Reps.c4 (k28_mkM _ _ _ (⟨1, 3, 0, ⟨#[]⟩⟩ : S28)) (Reps.c4 (k28_mkM _ _ _ (⟨0, 0, 0, ⟨#[]⟩⟩ : S28)) (Reps.c4 (k28_mkM _ _ _ (⟨1, (-1), 0, ⟨#[]⟩⟩ : S28)) (Reps.c4 (k28_mkM _ _ _ (⟨1, 9, 0, ⟨#[]⟩⟩ : S28)) (Reps.none _ _)))))); intro v2 w3 ho hb_ hg_ hnew_; clear hg_ hnew_; obtain ⟨Av, cv, ev⟩ := Kd.R_slice ho; replace ev : v2 = .slice Av 4 cv := ev; subst ev; have HS1 := Aside0.mk (Std.and (Std.rowR ho rfl) (Std.step HS.out hb_)); clear HS; have HS := HS1; clear HS1; clear ho hb_)
 go_upto_region 4 with (first | ((with_reducible refine gate_dst (N := 18) rfl ?_); refine ld_blk (d := (.struct _)) rfl 23 _ rfl (by rfl) (HS.out.now.2.1) hu23 rfl (by kernel_rfl) ?_) | ((with_reducible refine gate_callee (f := 14) rfl ?_); (with_reducible refine gate_dst (N := 20) rfl ?_); refine goesL_ (some 20) rfl rfl Try.func14 (by kernel_rfl) rfl #[.agg #[.string ⟨#[105]⟩, .int .i64 1, .bool true], .slice Av 4 cv, .int .i64 8] rfl (by (try simp only [List.map_toArray, List.map_cons, List.map_nil]); first | done | rfl) ?_; refine (zone_Of.calls 40 ⟨#[105]⟩ 1 true Av cv vals4 8 1 1 (-1) 0 ⟨#[]⟩ 1 9 0 ⟨#[]⟩ blm 0 _ HS.out.now.1.2 HS.out.now.1.1 of_f).mono ?_; rintro e w4 ⟨vz, rfl, ho, hb_⟩; obtain ⟨Az, cz, ez⟩ := Kd.R_slice ho; replace ez : vz = .slice Az 8 cz := ez; subst ez; refine ⟨_, rfl, ?_⟩; have HS1 := Aside0.mk (Std.and (Std.rowR ho rfl) (Std.step HS.out hb_)); clear HS; have HS := HS1; clear HS1; clear ho hb_) | ((with_reducible refine gate_dst (N := 3) rfl ?_); refine box_event ?hg (N := 3) ?hd (cs := #[.int .i64 0, .int .i64 0, .int .i64 0, .float .f64 0, .string ⟨#[]⟩, .int .i64 0, .int .i64 0, .float .f64 0, .string ⟨#[]⟩, .slice none 0 0]) (t := 31) ?hr ?_; (case hd => rfl); (case hg => rfl); (case hr => first | (go_simp; done) | (go_simp; rfl)); intro g3 hg_ w5 hbox hb_; have HG_ := Aside0.mk hg_; have HX_ := Aside0.mk hbox; have HY_ := Aside0.mk hb_; clear hg_ hbox hb_) | ((with_reducible refine gate_store (p := 3) rfl ?_); refine st_blk rfl 31 _ _ rfl rfl #[.int .i64 1, .int .i64 1, .int .i64 (-1), .float .f64 0, .string ⟨#[]⟩, .int .i64 1, .int .i64 9, .float .f64 0, .string ⟨#[]⟩, .slice Az 8 cz] (by rfl) (by rfl) HX_.out (by rfl) (by kernel_rfl) (by simp [Value.oneCell']) ?_; intro w6 hbox2 ho_; have hb2_ := Only.belowW ho_ HY_.out (Nat.le_of_eq HG_.out.symm); have HGg3 := HG_; clear HX_ HY_ HG_ ho_; have HS1 := Aside0.mk (Std.and (Std.blk hbox2) (Std.step HS.out hb2_)); clear HS; have HS := HS1; clear HS1; clear hb2_ hbox2))
 go_upto_region 5 with (first | ((with_reducible refine gate_dst (N := 5) rfl ?_); refine box_event ?hg (N := 5) ?hd (cs := #[.int .i64 0, .int .i64 0, .int .i64 0, .float .f64 0, .string ⟨#[]⟩, .int .i64 0, .int .i64 0, .float .f64 0, .string ⟨#[]⟩, .slice none 0 0]) (t := 31) ?hr ?_; (case hd => rfl); (case hg => rfl); (case hr => first | (go_simp; done) | (go_simp; rfl)); intro g5 hg_ w7 hbox hb_; have HG_ := Aside0.mk hg_; have HX_ := Aside0.mk hbox; have HY_ := Aside0.mk hb_; clear hg_ hbox hb_) | ((with_reducible refine gate_store (p := 5) rfl ?_); refine st_blk rfl 31 _ _ rfl rfl #[.int .i64 1, .int .i64 1, .int .i64 (-1), .float .f64 0, .string ⟨#[]⟩, .int .i64 1, .int .i64 9, .float .f64 0, .string ⟨#[]⟩, .slice none 0 0] (by rfl) (by rfl) HX_.out (by rfl) (by kernel_rfl) (by simp [Value.oneCell']) ?_; intro w8 hbox2 ho_; have hb2_ := Only.belowW ho_ HY_.out (Nat.le_of_eq HG_.out.symm); have HGg5 := HG_; clear HX_ HY_ HG_ ho_; have HS1 := Aside0.mk (Std.and (Std.blk hbox2) (Std.step HS.out hb2_)); clear HS; have HS := HS1; clear HS1; clear hb2_ hbox2))
 go_upto_region 6 with (first | ((with_reducible refine gate_dst (N := 27) rfl ?_); refine ld_blk (d := (.struct _)) rfl 23 _ rfl (by rfl) (HS.out.now.2.2.2.2.1) hu23 rfl (by kernel_rfl) ?_) | ((with_reducible refine gate_dst (N := 28) rfl ?_); refine ld_blk (d := (.struct _)) rfl 31 _ rfl (by rfl) (HS.out.now.1) hu31 rfl (by kernel_rfl) ?_) | ((with_reducible refine gate_callee (f := 21) rfl ?_); (with_reducible refine gate_dst (N := 29) rfl ?_); refine goesL_ (some 29) rfl rfl Try.func21 (by kernel_rfl) rfl #[.agg #[.string ⟨#[105]⟩, .int .i64 1, .bool true], .agg #[.int .i64 1, .int .i64 1, .int .i64 (-1), .float .f64 0, .string ⟨#[]⟩, .int .i64 1, .int .i64 9, .float .f64 0, .string ⟨#[]⟩, .slice none 0 0]] rfl (by (try simp only [List.map_toArray, List.map_cons, List.map_nil]); first | done | rfl) ?_; refine (zone_Put.calls 40 ⟨#[105]⟩ 1 true 1 1 (-1) 0 ⟨#[]⟩ 1 9 0 ⟨#[]⟩ none 0 [] [1, 1, 1, 18, 0] 0 _ (Kd.C_nil _ _) (Nat.le_refl _) pu_f).mono ?_; rintro e w9 ⟨vb, rfl, ho, hb_⟩; obtain ⟨Ab, cb, eb⟩ := Kd.R_slice ho; replace eb : vb = .slice Ab 5 cb := eb; subst eb; refine ⟨_, rfl, ?_⟩; have HS1 := Aside0.mk (Std.and (Std.rowR ho rfl) (Std.step HS.out hb_)); clear HS; have HS := HS1; clear HS1; clear ho hb_))
 go_upto_region 8 with (first | ((with_reducible refine gate_callee (f := 15) rfl ?_); (with_reducible refine gate_dst (N := 33) rfl ?_); refine goesL_ (some 33) rfl rfl Try.func15 (by kernel_rfl) rfl #[.int .i64 0] rfl (by (try simp only [List.map_toArray, List.map_cons, List.map_nil]); first | done | rfl) ?_; refine (colonnadelaw14_num.calls 0 0 _ rfl).mono ?_; rintro e w10 ⟨rfl, hb0_⟩; have hb_ := hb0_.below; refine ⟨_, rfl, ?_⟩; have HS1 := Aside0.mk (Std.step HS.out hb_); clear HS; have HS := HS1; clear HS1; clear hb_ hb0_; obtain ⟨z0, z1, z2, z3, z4, z5, z6, z7, z8, z9⟩ := cells_10 (HS.out.now.2.2.1)) | ((with_reducible refine gate_callee (f := 15) rfl ?_); (with_reducible refine gate_dst (N := 60) rfl ?_); refine gate_guard (by rfl) ?_; refine goesL_ (some 60) rfl rfl Try.func15 (by kernel_rfl) rfl #[.int .i64 0] rfl (by (try simp only [List.map_toArray, List.map_cons, List.map_nil]); first | done | rfl) ?_; refine (colonnadelaw14_num.calls 0 0 _ rfl).mono ?_; rintro e w11 ⟨rfl, hb0_⟩; have hb_ := hb0_.below; refine ⟨_, rfl, ?_⟩; have HS1 := Aside0.mk (Std.step HS.out hb_); clear HS; have HS := HS1; clear HS1; clear hb_ hb0_; clear z0 z1 z2 z3 z4 z5 z6 z7 z8 z9; have hcv : (convert 29 9 (.slice Ab 5 cb)).run Try.prog w11 = .ok (.string ⟨#[1, 1, 1, 18, 0]⟩) w11 := (Kd.C_string (P := Try.prog) (A := Ab) (n := 5) (c := cb) Try.underlying29 Try.underlying5 Try.underlying9 HS.out.now.1.2).trans (by rw [str5])))
 clear hcv
 replace HS : Aside0 (Std w11 (AwQ w g1 g3 g5 Av Az Ab cv cz cb)) := HS
 go_cut [8, 9] (fun s8 s9 wx => ∃ (g8 : Nat) (Ak : Option Addr) (ck : Nat), s8 = .pointer (some ⟨g8, 0, none⟩) ∧ s9 = .int .i64 0 ∧ Std wx (fun W => W.heap[g8]? = some (.cells #[.int .i64 1, .int .i64 1, .int .i64 (-1), .float .f64 0, .string ⟨#[]⟩, .int .i64 1, .int .i64 9, .float .f64 0, .string ⟨#[]⟩, .slice Ak 0 ck] 31 (0, 0)) ∧ AwQ w g1 g3 g5 Av Az Ab cv cz cb W))
 case first =>
  refine start_ (n := 10) (S := fun w' => w'.cell? ⟨g1, 0, none⟩ = some (.string ⟨#[105]⟩) ∧ w'.cell? ⟨g1, 1, none⟩ = some (.int .i64 1) ∧ w'.cell? ⟨g1, 2, none⟩ = some (.bool true)) (ds := []) #[false, false, false, false, false, false, false, false, false, false] (by kernel_rfl) rfl rfl ⟨(blk_cell (HS.out.now.2.2.2.2.2.1) 0).trans rfl, (blk_cell (HS.out.now.2.2.2.2.2.1) 1).trans rfl, (blk_cell (HS.out.now.2.2.2.2.2.1) 2).trans rfl⟩ (fun hHeld => ?_)
  have HSn := Aside0.mk (Std.step HS.out (below_drew1 (Below.refl _ _)))
  clear HS
  have HS := HSn
  have HSb := HSn
  clear HSn
  generalize w11.drew = w12 at HS HSb hHeld ⊢
  refine pure_ (i := 1) (N := some 70) (v := ?_) (a' := ?_) #[false, true, false, false, false, false, false, false, false, false] rfl rfl (by kernel_rfl) (fun _ _ _ h => h) (Or.inl ⟨by rfl, ?_⟩) ?_ ?_
  rotate_left
  ·intro w'
   go_simp
   with_reducible rfl
  rotate_left
  ·simp only [Act.put, List.setIfInBounds_toArray, List.set_cons_zero, List.set_cons_succ, i64_w, i32_w]
   rfl
  refine take_ (i := 0) (N := some 69) (v := ?_) (a' := ?_) #[true, true, false, false, false, false, false, false, false, false] rfl rfl (by kernel_rfl) (fun _ _ _ h => h) (Or.inl ⟨by rfl, ?_⟩) hHeld ?_ ?_
  rotate_left
  ·rintro w' ⟨s0, s1, s2⟩
   go_simp
   with_reducible rfl
  rotate_left
  ·simp only [Act.put, List.setIfInBounds_toArray, List.set_cons_zero, List.set_cons_succ, i64_w, i32_w]
   rfl
  refine two_ (i := 2) (j := 7) (Ni := some 71) (Nj := some 8) #[true, true, true, false, false, false, false, false, false, false] #[true, true, false, false, false, false, false, true, false, false] rfl rfl rfl rfl (by kernel_rfl) (by decide) (by decide) (fun K hK => ?_) (fun K hK => ?_)
  ·skip
   refine goes_ Try.func27 (by kernel_rfl) rfl #[.slice Ab 5 cb] (by rfl) rfl rfl (by (try simp only [List.map_toArray, List.map_cons, List.map_nil]); first | done | rfl) ?_
   refine (cursor_Open.callsW Ab cb [1, 1, 1, 18, 0] [1, 1, 1, 18, 0] 0 0 _ (C_at HSb.out).2 (C_at HSb.out).1 op_f).mono ?_
   rintro e wO ⟨W0, gr, rfl, hb0, hI0, hb3⟩
   have HO0 := Aside0.mk (hb0.out)
   have hgr_ := Aside0.mk (isg_lt hI0.out)
   refine ⟨_, rfl, ?_⟩
   have HSn := Aside0.mk (Std.step HSb.out (below_step hb0.out hb3.out))
   clear HSb
   have HSb := HSn
   clear HSn
   refine hK.out _ _ ⟨(blk_cell (HSb.out.now.2.2.2.2.2.1) 0).trans rfl, (blk_cell (HSb.out.now.2.2.2.2.2.1) 1).trans rfl, (blk_cell (HSb.out.now.2.2.2.2.2.1) 2).trans rfl⟩ (fun hHeld => ?_)
   clear hK K
   refine norm_ (a' := ?_) ?_ ?_
   rotate_left
   ·show Act.put _ (some 71) _ = _
    simp only [Act.put, List.setIfInBounds_toArray, List.set_cons_zero, List.set_cons_succ, i64_w, i32_w]
    rfl
   refine two_ (i := 3) (j := 7) (Ni := some 72) (Nj := some 8) #[true, true, true, true, false, false, false, false, false, false] #[true, true, true, false, false, false, false, true, false, false] rfl rfl rfl rfl (by kernel_rfl) (by decide) (by decide) (fun K hK => ?_) (fun K hK => ?_)
   ·skip
    refine goes_ Try.func31 (by kernel_rfl) rfl #[.agg #[.string ⟨#[105]⟩, .int .i64 1, .bool true], .pointer (some ⟨gr, 0, none⟩)] (by rfl) rfl rfl (by (try simp only [List.map_toArray, List.map_cons, List.map_nil]); first | done | rfl) ?_
    refine (zone_Take.calls 40 ⟨#[105]⟩ 1 true gr [1, 1, 1, 18, 0] 0 0 1 1 (-1) 0 ⟨#[]⟩ 1 9 0 ⟨#[]⟩ [] 0 5 0 W0 _ hI0.out hb3.out tk_f).mono ?_
    rintro e wT ⟨vk, rfl, ho, hI1, hb4, hk4⟩
    obtain ⟨Ak, ck, ek⟩ := Kd.R_slice ho
    replace ek : vk = .slice Ak 0 ck := ek
    subst ek
    refine ⟨_, rfl, ?_⟩
    have HB4 := Aside0.mk hb4
    have HSn := Aside0.mk (Std.step HS.out (below_weaken HO0.out HO0.out.size hb4))
    clear HSb
    have HSb := HSn
    clear HSn
    clear ho hI1 hb4 hk4
    refine hK.out _ _ ⟨(blk_cell (HSb.out.now.2.2.2.2.2.1) 0).trans rfl, (blk_cell (HSb.out.now.2.2.2.2.2.1) 1).trans rfl, (blk_cell (HSb.out.now.2.2.2.2.2.1) 2).trans rfl⟩ (fun hHeld => ?_)
    clear hK K
    refine norm_ (a' := ?_) ?_ ?_
    rotate_left
    ·show Act.put _ (some 72) _ = _
     simp only [Act.put, List.setIfInBounds_toArray, List.set_cons_zero, List.set_cons_succ, i64_w, i32_w]
     rfl
    refine pure_ (i := 4) (N := some 68) (v := ?_) (a' := ?_) #[true, true, true, true, true, false, false, false, false, false] rfl rfl (by kernel_rfl) (fun _ _ _ h => h) (Or.inl ⟨by rfl, ?_⟩) ?_ ?_
    rotate_left
    ·intro w'
     go_simp
     with_reducible rfl
    rotate_left
    ·simp only [Act.put, List.setIfInBounds_toArray, List.set_cons_zero, List.set_cons_succ, i64_w, i32_w]
     rfl
    refine pure_ (i := 5) (N := some 73) (v := ?_) (a' := ?_) #[true, true, true, true, true, true, false, false, false, false] rfl rfl (by kernel_rfl) (fun _ _ _ h => h) (Or.inl ⟨by rfl, ?_⟩) ?_ ?_
    rotate_left
    ·intro w'
     go_simp
     with_reducible rfl
    rotate_left
    ·simp only [Act.put, List.setIfInBounds_toArray, List.set_cons_zero, List.set_cons_succ, i64_w, i32_w]
     rfl
    refine pure_ (i := 6) (N := some 74) (v := ?_) (a' := ?_) #[true, true, true, true, true, true, true, false, false, false] rfl rfl (by kernel_rfl) (fun _ _ _ h => h) (Or.inl ⟨by rfl, ?_⟩) ?_ ?_
    rotate_left
    ·intro w'
     go_simp
     with_reducible rfl
    rotate_left
    ·simp only [Act.put, List.setIfInBounds_toArray, List.set_cons_zero, List.set_cons_succ, i64_w, i32_w]
     rfl
    refine one_ (i := 7) (N := some 8) #[true, true, true, true, true, true, true, true, false, false] rfl rfl (by kernel_rfl) (by decide) (fun K hK => ?_)
    refine box_step ?hg (N := 8) ?hd (cs := #[.int .i64 0, .int .i64 0, .int .i64 0, .float .f64 0, .string ⟨#[]⟩, .int .i64 0, .int .i64 0, .float .f64 0, .string ⟨#[]⟩, .slice none 0 0]) (t := 31) ?hr ?_; (case hd => rfl); (case hg => rfl); (case hr => first | (go_simp; done) | (go_simp; rfl))
    intro g8 hg wX hbox hb
    have HG8 := Aside0.mk hg
    have HX8 := Aside0.mk hbox
    have HY8 := Aside0.mk hb
    clear hg hbox
    have HSn := Aside0.mk (Std.step HSb.out hb)
    clear HSb
    have HSb := HSn
    clear HSn
    clear hb
    refine hK.out _ _ ⟨(blk_cell (HSb.out.now.2.2.2.2.2.1) 0).trans rfl, (blk_cell (HSb.out.now.2.2.2.2.2.1) 1).trans rfl, (blk_cell (HSb.out.now.2.2.2.2.2.1) 2).trans rfl⟩ (fun hHeld => ?_)
    clear hK K
    refine norm_ (a' := ?_) ?_ ?_
    rotate_left
    ·show Act.put _ (some 8) _ = _
     simp only [Act.put, List.setIfInBounds_toArray, List.set_cons_zero, List.set_cons_succ, i64_w, i32_w]
     rfl
    refine one_ (i := 8) (N := none) #[true, true, true, true, true, true, true, true, true, false] rfl rfl (by kernel_rfl) (by decide) (fun K hK => ?_)
    refine st_blk_step (by rfl) 31 _ _ rfl rfl #[.int .i64 1, .int .i64 1, .int .i64 (-1), .float .f64 0, .string ⟨#[]⟩, .int .i64 1, .int .i64 9, .float .f64 0, .string ⟨#[]⟩, .slice Ak 0 ck] (by rfl) (by rfl) HX8.out (by rfl) (by kernel_rfl) (by simp [Value.oneCell']) ?_
    intro wE hbox ho_
    have HX8n := Aside0.mk hbox
    have HON := Aside0.mk ho_
    clear HX8 hbox ho_
    have HX8 := HX8n
    clear HX8n
    have HZ_ := Aside0.mk (Only.belowW HON.out (below_step (below_weaken HO0.out HO0.out.size HB4.out) HY8.out) (by rw [HG8.out]; exact (below_weaken HO0.out HO0.out.size HB4.out).size))
    refine hK.out _ _ ⟨(blk_cell ((Std.step HS.out HZ_.out).now.2.2.2.2.2.1) 0).trans rfl, (blk_cell ((Std.step HS.out HZ_.out).now.2.2.2.2.2.1) 1).trans rfl, (blk_cell ((Std.step HS.out HZ_.out).now.2.2.2.2.2.1) 2).trans rfl⟩ (fun hHeld => ?_)
    clear hK K
    refine norm_ (a' := ?_) ?_ ?_
    rotate_left
    ·show Act.put _ (none) _ = _
     simp only [Act.put, List.setIfInBounds_toArray, List.set_cons_zero, List.set_cons_succ, i64_w, i32_w]
     rfl
    refine pure_ (i := 9) (N := some 9) (v := ?_) (a' := ?_) #[true, true, true, true, true, true, true, true, true, true] rfl rfl (by kernel_rfl) (fun _ _ _ h => h) (Or.inl ⟨by rfl, ?_⟩) ?_ ?_
    rotate_left
    ·intro w'
     go_simp
     with_reducible rfl
    rotate_left
    ·simp only [Act.put, List.setIfInBounds_toArray, List.set_cons_zero, List.set_cons_succ, i64_w, i32_w]
     rfl
    refine done_ (by kernel_rfl) ?_
    go_wp2_with fail
    go_meet
    exact ⟨g8, Ak, ck, rfl, rfl, Std.and (Std.blk HX8.out) (Std.step HS.out (HZ_.out))⟩
   ·skip
    refine box_step ?hg (N := 8) ?hd (cs := #[.int .i64 0, .int .i64 0, .int .i64 0, .float .f64 0, .string ⟨#[]⟩, .int .i64 0, .int .i64 0, .float .f64 0, .string ⟨#[]⟩, .slice none 0 0]) (t := 31) ?hr ?_; (case hd => rfl); (case hg => rfl); (case hr => first | (go_simp; done) | (go_simp; rfl))
    intro g8 hg wX hbox hb
    have HG8 := Aside0.mk hg
    have HX8 := Aside0.mk hbox
    have HY8 := Aside0.mk hb
    clear hg hbox
    have HSn := Aside0.mk (Std.step HSb.out hb)
    clear HSb
    have HSb := HSn
    clear HSn
    have hb3o := hb3
    have hI2 := Aside0.mk (isg_below hI0.out hb)
    have hb5 := Aside0.mk (below_step hb3.out hb)
    clear hI0 hb3
    have hI0 := hI2
    have hb3 := hb5
    clear hI2 hb5
    clear hb
    refine hK.out _ _ ⟨(blk_cell (HSb.out.now.2.2.2.2.2.1) 0).trans rfl, (blk_cell (HSb.out.now.2.2.2.2.2.1) 1).trans rfl, (blk_cell (HSb.out.now.2.2.2.2.2.1) 2).trans rfl⟩ (fun hHeld => ?_)
    skip
    clear hK K
    refine norm_ (a' := ?_) ?_ ?_
    rotate_left
    ·show Act.put _ (some 8) _ = _
     simp only [Act.put, List.setIfInBounds_toArray, List.set_cons_zero, List.set_cons_succ, i64_w, i32_w]
     rfl
    refine one_ (i := 3) (N := some 72) #[true, true, true, true, false, false, false, true, false, false] rfl rfl (by kernel_rfl) (by decide) (fun K hK => ?_)
    refine goes_ Try.func31 (by kernel_rfl) rfl #[.agg #[.string ⟨#[105]⟩, .int .i64 1, .bool true], .pointer (some ⟨gr, 0, none⟩)] (by rfl) rfl rfl (by (try simp only [List.map_toArray, List.map_cons, List.map_nil]); first | done | rfl) ?_
    refine (zone_Take.calls 40 ⟨#[105]⟩ 1 true gr [1, 1, 1, 18, 0] 0 0 1 1 (-1) 0 ⟨#[]⟩ 1 9 0 ⟨#[]⟩ [] 0 5 0 W0 _ hI0.out hb3.out tk_f).mono ?_
    rintro e wT ⟨vk, rfl, ho, hI1, hb4, hk4⟩
    obtain ⟨Ak, ck, ek⟩ := Kd.R_slice ho
    replace ek : vk = .slice Ak 0 ck := ek
    subst ek
    refine ⟨_, rfl, ?_⟩
    have HB4 := Aside0.mk hb4
    have HSn := Aside0.mk (Std.step HS.out (below_weaken HO0.out HO0.out.size hb4))
    clear HSb
    have HSb := HSn
    clear HSn
    have HX8n := Aside0.mk (hk4.blk HX8.out (Nat.ne_of_gt (by rw [HG8.out]; exact hgr_.out)) (by simp))
    clear HX8
    have HX8 := HX8n
    clear HX8n
    clear ho hI1 hb4 hk4
    refine hK.out _ _ ⟨(blk_cell (HSb.out.now.2.2.2.2.2.1) 0).trans rfl, (blk_cell (HSb.out.now.2.2.2.2.2.1) 1).trans rfl, (blk_cell (HSb.out.now.2.2.2.2.2.1) 2).trans rfl⟩ (fun hHeld => ?_)
    clear hK K
    refine norm_ (a' := ?_) ?_ ?_
    rotate_left
    ·show Act.put _ (some 72) _ = _
     simp only [Act.put, List.setIfInBounds_toArray, List.set_cons_zero, List.set_cons_succ, i64_w, i32_w]
     rfl
    refine pure_ (i := 4) (N := some 68) (v := ?_) (a' := ?_) #[true, true, true, true, true, false, false, true, false, false] rfl rfl (by kernel_rfl) (fun _ _ _ h => h) (Or.inl ⟨by rfl, ?_⟩) ?_ ?_
    rotate_left
    ·intro w'
     go_simp
     with_reducible rfl
    rotate_left
    ·simp only [Act.put, List.setIfInBounds_toArray, List.set_cons_zero, List.set_cons_succ, i64_w, i32_w]
     rfl
    refine pure_ (i := 5) (N := some 73) (v := ?_) (a' := ?_) #[true, true, true, true, true, true, false, true, false, false] rfl rfl (by kernel_rfl) (fun _ _ _ h => h) (Or.inl ⟨by rfl, ?_⟩) ?_ ?_
    rotate_left
    ·intro w'
     go_simp
     with_reducible rfl
    rotate_left
    ·simp only [Act.put, List.setIfInBounds_toArray, List.set_cons_zero, List.set_cons_succ, i64_w, i32_w]
     rfl
    refine pure_ (i := 6) (N := some 74) (v := ?_) (a' := ?_) #[true, true, true, true, true, true, true, true, false, false] rfl rfl (by kernel_rfl) (fun _ _ _ h => h) (Or.inl ⟨by rfl, ?_⟩) ?_ ?_
    rotate_left
    ·intro w'
     go_simp
     with_reducible rfl
    rotate_left
    ·simp only [Act.put, List.setIfInBounds_toArray, List.set_cons_zero, List.set_cons_succ, i64_w, i32_w]
     rfl
    refine one_ (i := 8) (N := none) #[true, true, true, true, true, true, true, true, true, false] rfl rfl (by kernel_rfl) (by decide) (fun K hK => ?_)
    refine st_blk_step (by rfl) 31 _ _ rfl rfl #[.int .i64 1, .int .i64 1, .int .i64 (-1), .float .f64 0, .string ⟨#[]⟩, .int .i64 1, .int .i64 9, .float .f64 0, .string ⟨#[]⟩, .slice Ak 0 ck] (by rfl) (by rfl) HX8.out (by rfl) (by kernel_rfl) (by simp [Value.oneCell']) ?_
    intro wE hbox ho_
    have HX8n := Aside0.mk hbox
    have HON := Aside0.mk ho_
    clear HX8 hbox ho_
    have HX8 := HX8n
    clear HX8n
    have HZ_ := Aside0.mk (Only.belowW HON.out (below_weaken HO0.out HO0.out.size HB4.out) (by rw [HG8.out]; exact (below_step HO0.out hb3o.out).size))
    refine hK.out _ _ ⟨(blk_cell ((Std.step HS.out HZ_.out).now.2.2.2.2.2.1) 0).trans rfl, (blk_cell ((Std.step HS.out HZ_.out).now.2.2.2.2.2.1) 1).trans rfl, (blk_cell ((Std.step HS.out HZ_.out).now.2.2.2.2.2.1) 2).trans rfl⟩ (fun hHeld => ?_)
    clear hK K
    refine norm_ (a' := ?_) ?_ ?_
    rotate_left
    ·show Act.put _ (none) _ = _
     simp only [Act.put, List.setIfInBounds_toArray, List.set_cons_zero, List.set_cons_succ, i64_w, i32_w]
     rfl
    refine pure_ (i := 9) (N := some 9) (v := ?_) (a' := ?_) #[true, true, true, true, true, true, true, true, true, true] rfl rfl (by kernel_rfl) (fun _ _ _ h => h) (Or.inl ⟨by rfl, ?_⟩) ?_ ?_
    rotate_left
    ·intro w'
     go_simp
     with_reducible rfl
    rotate_left
    ·simp only [Act.put, List.setIfInBounds_toArray, List.set_cons_zero, List.set_cons_succ, i64_w, i32_w]
     rfl
    refine done_ (by kernel_rfl) ?_
    go_wp2_with fail
    go_meet
    exact ⟨g8, Ak, ck, rfl, rfl, Std.and (Std.blk HX8.out) (Std.step HS.out (HZ_.out))⟩
  ·skip
   refine box_step ?hg (N := 8) ?hd (cs := #[.int .i64 0, .int .i64 0, .int .i64 0, .float .f64 0, .string ⟨#[]⟩, .int .i64 0, .int .i64 0, .float .f64 0, .string ⟨#[]⟩, .slice none 0 0]) (t := 31) ?hr ?_; (case hd => rfl); (case hg => rfl); (case hr => first | (go_simp; done) | (go_simp; rfl))
   intro g8 hg wX hbox hb
   have HG8 := Aside0.mk hg
   have HX8 := Aside0.mk hbox
   have HY8 := Aside0.mk hb
   clear hg hbox
   have HSn := Aside0.mk (Std.step HSb.out hb)
   clear HSb
   have HSb := HSn
   clear HSn
   clear hb
   refine hK.out _ _ ⟨(blk_cell (HSb.out.now.2.2.2.2.2.1) 0).trans rfl, (blk_cell (HSb.out.now.2.2.2.2.2.1) 1).trans rfl, (blk_cell (HSb.out.now.2.2.2.2.2.1) 2).trans rfl⟩ (fun hHeld => ?_)
   clear hK K
   refine norm_ (a' := ?_) ?_ ?_
   rotate_left
   ·show Act.put _ (some 8) _ = _
    simp only [Act.put, List.setIfInBounds_toArray, List.set_cons_zero, List.set_cons_succ, i64_w, i32_w]
    rfl
   refine one_ (i := 2) (N := some 71) #[true, true, true, false, false, false, false, true, false, false] rfl rfl (by kernel_rfl) (by decide) (fun K hK => ?_)
   refine goes_ Try.func27 (by kernel_rfl) rfl #[.slice Ab 5 cb] (by rfl) rfl rfl (by (try simp only [List.map_toArray, List.map_cons, List.map_nil]); first | done | rfl) ?_
   refine (cursor_Open.callsW Ab cb [1, 1, 1, 18, 0] [1, 1, 1, 18, 0] 0 0 _ (C_at HSb.out).2 (C_at HSb.out).1 op_f).mono ?_
   rintro e wO ⟨W0, gr, rfl, hb0, hI0, hb3⟩
   have HO0 := Aside0.mk (below_step HY8.out hb0.out)
   have hgr_ := Aside0.mk (isg_lt hI0.out)
   refine ⟨_, rfl, ?_⟩
   have HSn := Aside0.mk (Std.step HSb.out (below_step hb0.out hb3.out))
   clear HSb
   have HSb := HSn
   clear HSn
   refine hK.out _ _ ⟨(blk_cell (HSb.out.now.2.2.2.2.2.1) 0).trans rfl, (blk_cell (HSb.out.now.2.2.2.2.2.1) 1).trans rfl, (blk_cell (HSb.out.now.2.2.2.2.2.1) 2).trans rfl⟩ (fun hHeld => ?_)
   clear hK K
   refine norm_ (a' := ?_) ?_ ?_
   rotate_left
   ·show Act.put _ (some 71) _ = _
    simp only [Act.put, List.setIfInBounds_toArray, List.set_cons_zero, List.set_cons_succ, i64_w, i32_w]
    rfl
   refine one_ (i := 3) (N := some 72) #[true, true, true, true, false, false, false, true, false, false] rfl rfl (by kernel_rfl) (by decide) (fun K hK => ?_)
   refine goes_ Try.func31 (by kernel_rfl) rfl #[.agg #[.string ⟨#[105]⟩, .int .i64 1, .bool true], .pointer (some ⟨gr, 0, none⟩)] (by rfl) rfl rfl (by (try simp only [List.map_toArray, List.map_cons, List.map_nil]); first | done | rfl) ?_
   refine (zone_Take.calls 40 ⟨#[105]⟩ 1 true gr [1, 1, 1, 18, 0] 0 0 1 1 (-1) 0 ⟨#[]⟩ 1 9 0 ⟨#[]⟩ [] 0 5 0 W0 _ hI0.out hb3.out tk_f).mono ?_
   rintro e wT ⟨vk, rfl, ho, hI1, hb4, hk4⟩
   obtain ⟨Ak, ck, ek⟩ := Kd.R_slice ho
   replace ek : vk = .slice Ak 0 ck := ek
   subst ek
   refine ⟨_, rfl, ?_⟩
   have HB4 := Aside0.mk hb4
   have HSn := Aside0.mk (Std.step HS.out (below_weaken HO0.out HO0.out.size hb4))
   clear HSb
   have HSb := HSn
   clear HSn
   have HX8n := Aside0.mk (blk_below (blk_below HX8.out hb0.out) hb4)
   clear HX8
   have HX8 := HX8n
   clear HX8n
   clear ho hI1 hb4 hk4
   refine hK.out _ _ ⟨(blk_cell (HSb.out.now.2.2.2.2.2.1) 0).trans rfl, (blk_cell (HSb.out.now.2.2.2.2.2.1) 1).trans rfl, (blk_cell (HSb.out.now.2.2.2.2.2.1) 2).trans rfl⟩ (fun hHeld => ?_)
   clear hK K
   refine norm_ (a' := ?_) ?_ ?_
   rotate_left
   ·show Act.put _ (some 72) _ = _
    simp only [Act.put, List.setIfInBounds_toArray, List.set_cons_zero, List.set_cons_succ, i64_w, i32_w]
    rfl
   refine pure_ (i := 4) (N := some 68) (v := ?_) (a' := ?_) #[true, true, true, true, true, false, false, true, false, false] rfl rfl (by kernel_rfl) (fun _ _ _ h => h) (Or.inl ⟨by rfl, ?_⟩) ?_ ?_
   rotate_left
   ·intro w'
    go_simp
    with_reducible rfl
   rotate_left
   ·simp only [Act.put, List.setIfInBounds_toArray, List.set_cons_zero, List.set_cons_succ, i64_w, i32_w]
    rfl
   refine pure_ (i := 5) (N := some 73) (v := ?_) (a' := ?_) #[true, true, true, true, true, true, false, true, false, false] rfl rfl (by kernel_rfl) (fun _ _ _ h => h) (Or.inl ⟨by rfl, ?_⟩) ?_ ?_
   rotate_left
   ·intro w'
    go_simp
    with_reducible rfl
   rotate_left
   ·simp only [Act.put, List.setIfInBounds_toArray, List.set_cons_zero, List.set_cons_succ, i64_w, i32_w]
    rfl
   refine pure_ (i := 6) (N := some 74) (v := ?_) (a' := ?_) #[true, true, true, true, true, true, true, true, false, false] rfl rfl (by kernel_rfl) (fun _ _ _ h => h) (Or.inl ⟨by rfl, ?_⟩) ?_ ?_
   rotate_left
   ·intro w'
    go_simp
    with_reducible rfl
   rotate_left
   ·simp only [Act.put, List.setIfInBounds_toArray, List.set_cons_zero, List.set_cons_succ, i64_w, i32_w]
    rfl
   refine one_ (i := 8) (N := none) #[true, true, true, true, true, true, true, true, true, false] rfl rfl (by kernel_rfl) (by decide) (fun K hK => ?_)
   refine st_blk_step (by rfl) 31 _ _ rfl rfl #[.int .i64 1, .int .i64 1, .int .i64 (-1), .float .f64 0, .string ⟨#[]⟩, .int .i64 1, .int .i64 9, .float .f64 0, .string ⟨#[]⟩, .slice Ak 0 ck] (by rfl) (by rfl) HX8.out (by rfl) (by kernel_rfl) (by simp [Value.oneCell']) ?_
   intro wE hbox ho_
   have HX8n := Aside0.mk hbox
   have HON := Aside0.mk ho_
   clear HX8 hbox ho_
   have HX8 := HX8n
   clear HX8n
   have HZ_ := Aside0.mk (Only.belowW HON.out (below_weaken (below_step HY8.out hb0.out) (below_step HY8.out hb0.out).size HB4.out) (Nat.le_of_eq HG8.out.symm))
   refine hK.out _ _ ⟨(blk_cell ((Std.step HS.out HZ_.out).now.2.2.2.2.2.1) 0).trans rfl, (blk_cell ((Std.step HS.out HZ_.out).now.2.2.2.2.2.1) 1).trans rfl, (blk_cell ((Std.step HS.out HZ_.out).now.2.2.2.2.2.1) 2).trans rfl⟩ (fun hHeld => ?_)
   clear hK K
   refine norm_ (a' := ?_) ?_ ?_
   rotate_left
   ·show Act.put _ (none) _ = _
    simp only [Act.put, List.setIfInBounds_toArray, List.set_cons_zero, List.set_cons_succ, i64_w, i32_w]
    rfl
   refine pure_ (i := 9) (N := some 9) (v := ?_) (a' := ?_) #[true, true, true, true, true, true, true, true, true, true] rfl rfl (by kernel_rfl) (fun _ _ _ h => h) (Or.inl ⟨by rfl, ?_⟩) ?_ ?_
   rotate_left
   ·intro w'
    go_simp
    with_reducible rfl
   rotate_left
   ·simp only [Act.put, List.setIfInBounds_toArray, List.set_cons_zero, List.set_cons_succ, i64_w, i32_w]
    rfl
   refine done_ (by kernel_rfl) ?_
   go_wp2_with fail
   go_meet
   exact ⟨g8, Ak, ck, rfl, rfl, Std.and (Std.blk HX8.out) (Std.step HS.out (HZ_.out))⟩
 case rest =>
  obtain ⟨g8, Ak, ck, rfl, rfl, HS1⟩ := hcut
  have HS := Aside0.mk HS1
  clear HS1
  go_upto_region 10 with (first | ((with_reducible refine gate_dst (N := 75) rfl ?_); refine ld_blk (d := (.struct _)) rfl 31 _ rfl (by rfl) (HS.out.now.2.2.1) hu31 rfl (by kernel_rfl) ?_) | ((with_reducible refine gate_dst (N := 10) rfl ?_); refine box_event ?hg (N := 10) ?hd (cs := #[.int .i64 0, .int .i64 0, .int .i64 0, .float .f64 0, .string ⟨#[]⟩, .int .i64 0, .int .i64 0, .float .f64 0, .string ⟨#[]⟩, .slice none 0 0]) (t := 31) ?hr ?_; (case hd => rfl); (case hg => rfl); (case hr => first | (go_simp; done) | (go_simp; rfl)); intro g10 hg_ w20 hbox hb_; have HG_ := Aside0.mk hg_; have HX_ := Aside0.mk hbox; have HY_ := Aside0.mk hb_; clear hg_ hbox hb_) | ((with_reducible refine gate_store (p := 10) rfl ?_); refine st_blk rfl 31 _ _ rfl rfl #[.int .i64 1, .int .i64 1, .int .i64 (-1), .float .f64 0, .string ⟨#[]⟩, .int .i64 1, .int .i64 9, .float .f64 0, .string ⟨#[]⟩, .slice none 0 0] (by rfl) (by rfl) HX_.out (by rfl) (by kernel_rfl) (by simp [Value.oneCell']) ?_; intro w21 hbox2 ho_; have hb2_ := Only.belowW ho_ HY_.out (Nat.le_of_eq HG_.out.symm); have HGg10 := HG_; clear HX_ HY_ HG_ ho_; have HBt := Aside0.mk hb2_; have HXt := Aside0.mk hbox2; clear hb2_ hbox2))
  have z2 : w21.cell? ⟨g10, 2, none⟩ = some (.int .i64 (-1)) := (blk_cell HXt.out 2).trans rfl
  have zf := blk_frozen HXt.out 2
  go_upto_region 11 with ((with_reducible refine gate_store (p := 77) rfl ?_); refine st_fld rfl 2 _ _ rfl rfl (.int .i64 0) (by rfl) (by rfl) HXt.out (by decide) (by kernel_rfl) rfl #[.int .i64 1, .int .i64 1, .int .i64 0, .float .f64 0, .string ⟨#[]⟩, .int .i64 1, .int .i64 9, .float .f64 0, .string ⟨#[]⟩, .slice none 0 0] (by rfl) (by go_simp) ?_; intro w22 hx_ ho_; have hb_ := Only.belowW ho_ HBt.out (Nat.le_of_eq HGg10.out.symm); have HS1 := Aside0.mk (Std.and (Std.blk hx_) (Std.step HS.out hb_)); clear hx_ ho_ hb_ z2 zf HS HBt HXt; have HS := HS1; clear HS1)
  go_wp2_with (first | ((with_reducible refine gate_callee (f := 15) rfl ?_); (with_reducible refine gate_dst (N := 79) rfl ?_); refine goesL_ (some 79) rfl rfl Try.func15 (by kernel_rfl) rfl #[.int .i64 0] rfl (by (try simp only [List.map_toArray, List.map_cons, List.map_nil]); first | done | rfl) ?_; refine (colonnadelaw14_num.calls 0 0 _ rfl).mono ?_; rintro e x1 ⟨rfl, hb0_⟩; have hb_ := hb0_.below; refine ⟨_, rfl, ?_⟩; have HS1 := Aside0.mk (Std.step HS.out hb_); clear HS; have HS := HS1; clear HS1; clear hb_ hb0_) | ((with_reducible refine gate_dst (N := 82) rfl ?_); refine gate_guard (by rfl) ?_; refine ld_blk (d := (.struct _)) rfl 31 _ rfl (by rfl) (HS.out.now.2.1) hu31 rfl (by kernel_rfl) ?_) | ((with_reducible refine gate_dst (N := 83) rfl ?_); refine gate_guard (by rfl) ?_; refine ld_blk (d := (.struct _)) rfl 31 _ rfl (by rfl) (HS.out.now.2.2.2.1) hu31 rfl (by kernel_rfl) ?_) | ((with_reducible refine gate_callee (f := 16) rfl ?_); (with_reducible refine gate_dst (N := 84) rfl ?_); refine gate_guard (by rfl) ?_; refine goesL_ (some 84) rfl rfl Try.func16 (by kernel_rfl) rfl #[.agg #[.int .i64 1, .int .i64 1, .int .i64 (-1), .float .f64 0, .string ⟨#[]⟩, .int .i64 1, .int .i64 9, .float .f64 0, .string ⟨#[]⟩, .slice Ak 0 ck], .agg #[.int .i64 1, .int .i64 1, .int .i64 (-1), .float .f64 0, .string ⟨#[]⟩, .int .i64 1, .int .i64 9, .float .f64 0, .string ⟨#[]⟩, .slice none 0 0]] rfl (by (try simp only [List.map_toArray, List.map_cons, List.map_nil]); first | done | rfl) ?_; refine (colonnaderef14_Same.calls 1 1 (-1) 0 ⟨#[]⟩ 1 9 0 ⟨#[]⟩ Ak ck [] 1 1 (-1) 0 ⟨#[]⟩ 1 9 0 ⟨#[]⟩ none 0 [] true _ ⟨rfl, by decide, fun h_ => absurd h_ (by decide)⟩ (Nat.zero_le _) ⟨rfl, by decide, fun h_ => absurd h_ (by decide)⟩ (Nat.zero_le _) sm_f).mono ?_; rintro e x2 ⟨rfl, hb_⟩; refine ⟨_, rfl, ?_⟩; have HS1 := Aside0.mk (Std.step HS.out hb_); clear HS; have HS := HS1; clear HS1; clear hb_) | ((with_reducible refine gate_dst (N := 87) rfl ?_); refine gate_guard (by rfl) ?_; refine ld_blk (d := (.struct _)) rfl 23 _ rfl (by rfl) (HS.out.now.2.2.2.2.2.2.2.1) hu23 rfl (by kernel_rfl) ?_) | ((with_reducible refine gate_dst (N := 89) rfl ?_); refine gate_guard (by rfl) ?_; refine ld_blk (d := (.struct _)) rfl 31 _ rfl (by rfl) (HS.out.now.2.2.2.2.1) hu31 rfl (by kernel_rfl) ?_) | ((with_reducible refine gate_callee (f := 24) rfl ?_); (with_reducible refine gate_dst (N := 90) rfl ?_); refine gate_guard (by rfl) ?_; refine goesL_ (some 90) rfl rfl Try.func24 (by kernel_rfl) rfl #[.agg #[.string ⟨#[105]⟩, .int .i64 1, .bool true], .slice Av 4 cv, .agg #[.int .i64 1, .int .i64 1, .int .i64 (-1), .float .f64 0, .string ⟨#[]⟩, .int .i64 1, .int .i64 9, .float .f64 0, .string ⟨#[]⟩, .slice Az 8 cz]] rfl (by (try simp only [List.map_toArray, List.map_cons, List.map_nil]); first | done | rfl) ?_; refine (zone_Sound.calls 40 ⟨#[105]⟩ 1 true Av cv vals4 1 1 (-1) 0 ⟨#[]⟩ 1 9 0 ⟨#[]⟩ Az cz blm true _ HS.out.now.2.2.2.2.2.2.1.2 HS.out.now.2.2.2.2.2.2.1.1 HS.out.now.2.2.2.2.2.1.2 HS.out.now.2.2.2.2.2.1.1 so1_f).mono ?_; rintro e x3 ⟨rfl, hb_⟩; refine ⟨_, rfl, ?_⟩; have HS1 := Aside0.mk (Std.step HS.out hb_); clear HS; have HS := HS1; clear HS1; clear hb_) | ((with_reducible refine gate_dst (N := 93) rfl ?_); refine gate_guard (by rfl) ?_; refine ld_blk (d := (.struct _)) rfl 23 _ rfl (by rfl) (HS.out.now.2.2.2.2.2.2.2.1) hu23 rfl (by kernel_rfl) ?_) | ((with_reducible refine gate_dst (N := 95) rfl ?_); refine gate_guard (by rfl) ?_; refine ld_blk (d := (.struct _)) rfl 31 _ rfl (by rfl) (HS.out.now.2.2.2.1) hu31 rfl (by kernel_rfl) ?_) | ((with_reducible refine gate_callee (f := 24) rfl ?_); (with_reducible refine gate_dst (N := 96) rfl ?_); refine gate_guard (by rfl) ?_; refine goesL_ (some 96) rfl rfl Try.func24 (by kernel_rfl) rfl #[.agg #[.string ⟨#[105]⟩, .int .i64 1, .bool true], .slice Av 4 cv, .agg #[.int .i64 1, .int .i64 1, .int .i64 (-1), .float .f64 0, .string ⟨#[]⟩, .int .i64 1, .int .i64 9, .float .f64 0, .string ⟨#[]⟩, .slice none 0 0]] rfl (by (try simp only [List.map_toArray, List.map_cons, List.map_nil]); first | done | rfl) ?_; refine (zone_Sound.calls 40 ⟨#[105]⟩ 1 true Av cv vals4 1 1 (-1) 0 ⟨#[]⟩ 1 9 0 ⟨#[]⟩ none 0 [] true _ HS.out.now.2.2.2.2.2.2.1.2 HS.out.now.2.2.2.2.2.2.1.1 ⟨rfl, by decide, fun h_ => absurd h_ (by decide)⟩ (Nat.zero_le _) so2_f).mono ?_; rintro e x4 ⟨rfl, hb_⟩; refine ⟨_, rfl, ?_⟩; have HS1 := Aside0.mk (Std.step HS.out hb_); clear HS; have HS := HS1; clear HS1; clear hb_) | ((with_reducible refine gate_dst (N := 99) rfl ?_); refine gate_guard (by rfl) ?_; refine ld_blk (d := (.struct _)) rfl 23 _ rfl (by rfl) (HS.out.now.2.2.2.2.2.2.2.1) hu23 rfl (by kernel_rfl) ?_) | ((with_reducible refine gate_dst (N := 101) rfl ?_); refine gate_guard (by rfl) ?_; refine ld_blk (d := (.struct _)) rfl 31 _ rfl (by rfl) (HS.out.now.1) hu31 rfl (by kernel_rfl) ?_) | ((with_reducible refine gate_callee (f := 24) rfl ?_); (with_reducible refine gate_dst (N := 102) rfl ?_); refine gate_guard (by rfl) ?_; refine goesL_ (some 102) rfl rfl Try.func24 (by kernel_rfl) rfl #[.agg #[.string ⟨#[105]⟩, .int .i64 1, .bool true], .slice Av 4 cv, .agg #[.int .i64 1, .int .i64 1, .int .i64 0, .float .f64 0, .string ⟨#[]⟩, .int .i64 1, .int .i64 9, .float .f64 0, .string ⟨#[]⟩, .slice none 0 0]] rfl (by (try simp only [List.map_toArray, List.map_cons, List.map_nil]); first | done | rfl) ?_; refine (zone_Sound.calls 40 ⟨#[105]⟩ 1 true Av cv vals4 1 1 0 0 ⟨#[]⟩ 1 9 0 ⟨#[]⟩ none 0 [] false _ HS.out.now.2.2.2.2.2.2.1.2 HS.out.now.2.2.2.2.2.2.1.1 ⟨rfl, by decide, fun h_ => absurd h_ (by decide)⟩ (Nat.zero_le _) so3_f).mono ?_; rintro e x5 ⟨rfl, hb_⟩; refine ⟨_, rfl, ?_⟩; have HS1 := Aside0.mk (Std.step HS.out hb_); clear HS; have HS := HS1; clear HS1; clear hb_) | ((with_reducible refine gate_dst (N := 106) rfl ?_); refine gate_guard (by rfl) ?_; refine ld_blk (d := (.struct _)) rfl 23 _ rfl (by rfl) (HS.out.now.2.2.2.2.2.2.2.1) hu23 rfl (by kernel_rfl) ?_) | ((with_reducible refine gate_dst (N := 107) rfl ?_); refine gate_guard (by rfl) ?_; refine ld_blk (d := (.struct _)) rfl 31 _ rfl (by rfl) (HS.out.now.2.2.2.2.1) hu31 rfl (by kernel_rfl) ?_) | ((with_reducible refine gate_callee (f := 20) rfl ?_); (with_reducible refine gate_dst (N := 108) rfl ?_); refine gate_guard (by rfl) ?_; refine goesL_ (some 108) rfl rfl Try.func20 (by kernel_rfl) rfl #[.agg #[.string ⟨#[105]⟩, .int .i64 1, .bool true], .int .i64 4, .agg #[.int .i64 1, .int .i64 1, .int .i64 (-1), .float .f64 0, .string ⟨#[]⟩, .int .i64 1, .int .i64 9, .float .f64 0, .string ⟨#[]⟩, .slice Az 8 cz]] rfl (by (try simp only [List.map_toArray, List.map_cons, List.map_nil]); first | done | rfl) ?_; refine (zone_May.calls 40 ⟨#[105]⟩ 1 true 4 1 1 (-1) 0 ⟨#[]⟩ 1 9 0 ⟨#[]⟩ Az cz blm true _ HS.out.now.2.2.2.2.2.1.2 HS.out.now.2.2.2.2.2.1.1 ma1_f).mono ?_; rintro e x6 ⟨rfl, hb_⟩; refine ⟨_, rfl, ?_⟩; have HS1 := Aside0.mk (Std.step HS.out hb_); clear HS; have HS := HS1; clear HS1; clear hb_) | ((with_reducible refine gate_dst (N := 111) rfl ?_); refine gate_guard (by rfl) ?_; refine ld_blk (d := (.struct _)) rfl 23 _ rfl (by rfl) (HS.out.now.2.2.2.2.2.2.2.1) hu23 rfl (by kernel_rfl) ?_) | ((with_reducible refine gate_dst (N := 112) rfl ?_); refine gate_guard (by rfl) ?_; refine ld_blk (d := (.struct _)) rfl 31 _ rfl (by rfl) (HS.out.now.2.2.2.2.1) hu31 rfl (by kernel_rfl) ?_) | ((with_reducible refine gate_callee (f := 20) rfl ?_); (with_reducible refine gate_dst (N := 113) rfl ?_); refine gate_guard (by rfl) ?_; refine goesL_ (some 113) rfl rfl Try.func20 (by kernel_rfl) rfl #[.agg #[.string ⟨#[105]⟩, .int .i64 1, .bool true], .int .i64 1, .agg #[.int .i64 1, .int .i64 1, .int .i64 (-1), .float .f64 0, .string ⟨#[]⟩, .int .i64 1, .int .i64 9, .float .f64 0, .string ⟨#[]⟩, .slice Az 8 cz]] rfl (by (try simp only [List.map_toArray, List.map_cons, List.map_nil]); first | done | rfl) ?_; refine (zone_May.calls 40 ⟨#[105]⟩ 1 true 1 1 1 (-1) 0 ⟨#[]⟩ 1 9 0 ⟨#[]⟩ Az cz blm false _ HS.out.now.2.2.2.2.2.1.2 HS.out.now.2.2.2.2.2.1.1 ma2_f).mono ?_; rintro e x7 ⟨rfl, hb_⟩; refine ⟨_, rfl, ?_⟩; have HS1 := Aside0.mk (Std.step HS.out hb_); clear HS; have HS := HS1; clear HS1; clear hb_))
  go_ret
  exact ⟨rfl, HS.out.now.2.2.2.2.2.2.2.2⟩
end Go.Proofs.Ythiidgmemoineaa.Pa
