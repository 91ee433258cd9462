/- The texts of ZoneOfs, merged: part 29. -/
import Derived.Test.YthiidgmemoineaaQZoneOfs12
import Derived.Test.YthiidgmemoineaaQZoneOfs28
import Derived.Test.YthiidgmemoineaaQZoneOfs8
import Derived.Test.YthiidgmemoineaaQZoneOfs7
import Derived.Test.YthiidgmemoineaaQZoneOfs10
/- zone.Of: its walk by hand. -/
namespace Go.Proofs.Ythiidgmemoineaa.Pa
open Go.Proofs.Ythiidgmemoineaa.L Go.RowKit Go.Proofs.YthiidgmemoineaaW.PrintWords Go.Proofs.YthiidgmemoineaaW.PrintLast Go.Proofs.YthiidgmemoineaaW.PrintMore
attribute [local go_sem] run_store_float cmp_feq cmp_fne cmp_flt cmp_fle cmp_fgt cmp_fge un_fneg equalIn_feq run_fop run_fint run_freal cmp_sgt
set_option linter.unusedVariables false
set_option linter.unusedSimpArgs false
theorem ofInfo28 : (Try.prog.info? 28).map (fun i => (i.zero, i.size, i.bytes)) = some (some (.agg #[(.int .i64 0), (.int .i64 0), (.float .f64 0), (.string ⟨#[]⟩)]), 4, 40) := by kernel_rfl
/-- The column's box and the answer's. -/
structure OfA (w : World) (g3 g6 : Nat) (c3 c6 : Array Value) (W : World) : Prop where
  hb : Below w.heap.size w W
  b3 : W.heap[g3]? = some (.cells c3 23 (0, 0))
  b6 : W.heap[g6]? = some (.cells c6 31 (0, 0))
  ge6 : w.heap.size ≤ g6
  n36 : g3 ≠ g6
/-- The values that are there, beside them. -/
structure OfL (w : World) (g3 g6 : Nat) (c3 c6 : Array Value) (v : Value) (xs : List S28) (W : World) : Prop where
  a : OfA w g3 g6 c3 c6 W
  row : Kd.R k28 28 W w.heap.size (fun _ => True) v xs
/-- A round's own value, beside them. -/
structure OfR (w : World) (g3 g6 g10 : Nat) (c3 c6 c10 : Array Value) (v : Value) (xs : List S28) (W : World) : Prop where
  a : OfA w g3 g6 c3 c6 W
  row : Kd.R k28 28 W w.heap.size (fun k => k ≠ g10) v xs
  b10 : W.heap[g10]? = some (.cells c10 28 (0, 0))
  ge10 : w.heap.size ≤ g10
  n10 : g10 ≠ g3 ∧ g10 ≠ g6
/-- The record's box and its filter, beside them. -/
structure OfZ (w : World) (g3 g6 g11 : Nat) (c3 c6 c11 : Array Value) (v : Value) (xs : List S28) (vb : Value) (bl : List Int) (W : World) : Prop where
  l : OfL w g3 g6 c3 c6 v xs W
  b11 : W.heap[g11]? = some (.cells c11 31 (0, 0))
  rowb : Kd.R (Kd.int .u8) 5 W w.heap.size (fun _ => True) vb bl
  ge11 : w.heap.size ≤ g11
  n11 : g11 ≠ g3 ∧ g11 ≠ g6
section
variable {w W W' : World} {g3 g6 g10 g11 : Nat} {c3 c6 c10 c11 c' : Array Value} {v vb : Value} {xs : List S28} {bl : List Int}
theorem row_only {α : Type} {d : Kd α} {e B g t : Nat} {cs : Array Value} {v : Value} {l : List α} (h : d.R e W B (fun _ => True) v l) (hb : W.heap[g]? = some (.cells cs t (0, 0))) (ht : ∀ q, q ∈ e :: d.E → q ≠ t) (ho : Only W W' g) : d.R e W' B (fun _ => True) v l :=
  Kd.R_mono (Kd.R_step (Kd.R_types h hb ht) (fun k hk _ => ho.block k hk.2)) (fun _ _ => trivial)
theorem OfA.below (h : OfA w g3 g6 c3 c6 W) (hb : Below W.heap.size W W') : OfA w g3 g6 c3 c6 W' := ⟨below_step h.hb hb, blk_below h.b3 hb, blk_below h.b6 hb, h.ge6, h.n36⟩
theorem OfA.set6 (h : OfA w g3 g6 c3 c6 W) (hx : W'.heap[g6]? = some (.cells c' 31 (0, 0))) (ho : Only W W' g6) : OfA w g3 g6 c3 c' W' := ⟨ho.below h.hb h.ge6, ho.blk h.b3 h.n36, hx, h.ge6, h.n36⟩
theorem OfA.far {g : Nat} (h : OfA w g3 g6 c3 c6 W) (ho : Only W W' g) (hg : w.heap.size ≤ g) (h3 : g ≠ g3) (h6 : g ≠ g6) : OfA w g3 g6 c3 c6 W' := ⟨ho.below h.hb hg, ho.blk h.b3 h3.symm, ho.blk h.b6 h6.symm, h.ge6, h.n36⟩
theorem OfL.below (h : OfL w g3 g6 c3 c6 v xs W) (hb : Below W.heap.size W W') : OfL w g3 g6 c3 c6 v xs W' := ⟨h.a.below hb, Kd.R_below h.row hb⟩
theorem OfL.set6 (h : OfL w g3 g6 c3 c6 v xs W) (hx : W'.heap[g6]? = some (.cells c' 31 (0, 0))) (ho : Only W W' g6) : OfL w g3 g6 c3 c' v xs W' := ⟨h.a.set6 hx ho, row_only h.row h.a.b6 (by decide) ho⟩
theorem OfR.start (h : OfL w g3 g6 c3 c6 v xs W) (hg : g10 = W.heap.size) (hx : W'.heap[g10]? = some (.cells c10 28 (0, 0))) (hb : Below W.heap.size W W') : OfR w g3 g6 g10 c3 c6 c10 v xs W' := by
  have h3 := blk_lt h.a.b3
  have h6 := blk_lt h.a.b6
  have h0 := h.a.hb.size
  exact ⟨h.a.below hb, Kd.R_below (Kd.R_mono (Kd.R_bound h.row) (fun k hk => by have := hk.2.2.1; omega)) hb, hx, by omega, by omega, by omega⟩
theorem OfR.below (h : OfR w g3 g6 g10 c3 c6 c10 v xs W) (hb : Below W.heap.size W W') : OfR w g3 g6 g10 c3 c6 c10 v xs W' := ⟨h.a.below hb, Kd.R_below h.row hb, blk_below h.b10 hb, h.ge10, h.n10⟩
theorem OfR.set10 (h : OfR w g3 g6 g10 c3 c6 c10 v xs W) (hx : W'.heap[g10]? = some (.cells c' 28 (0, 0))) (ho : Only W W' g10) : OfR w g3 g6 g10 c3 c6 c' v xs W' := ⟨h.a.far ho h.ge10 h.n10.1 h.n10.2, Kd.R_step h.row (fun k hk _ => ho.block k hk), hx, h.ge10, h.n10⟩
theorem OfR.set6 (h : OfR w g3 g6 g10 c3 c6 c10 v xs W) (hx : W'.heap[g6]? = some (.cells c' 31 (0, 0))) (ho : Only W W' g6) : OfA w g3 g6 c3 c' W' := h.a.set6 hx ho
theorem OfR.done (h : OfR w g3 g6 g10 c3 c6 c10 v xs W) : OfL w g3 g6 c3 c6 v xs W := ⟨h.a, Kd.R_mono h.row (fun _ _ => trivial)⟩
theorem OfR.grown {v1 : Value} {ys : List S28} (h : OfR w g3 g6 g10 c3 c6 c10 v xs W) (hR : Kd.R k28 28 W' w.heap.size (fun k => k ≠ g10) v1 ys) (hb : Below w.heap.size w W') (hg : W.grownBy W' v.ownBlock) : OfL w g3 g6 c3 c6 v1 ys W' :=
  ⟨⟨hb, blk_grown h.a.b3 hg (Kd.R_ne h.row h.a.b3 (by decide)), blk_grown h.a.b6 hg (Kd.R_ne h.row h.a.b6 (by decide)), h.a.ge6, h.a.n36⟩, Kd.R_mono hR (fun _ _ => trivial)⟩
theorem OfZ.start (h : OfL w g3 g6 c3 c6 v xs W) (hg : g11 = W.heap.size) (hx : W'.heap[g11]? = some (.cells c11 31 (0, 0))) (hb : Below W.heap.size W W') : OfZ w g3 g6 g11 c3 c6 c11 v xs (.slice none 0 0) [] W' := by
  have h3 := blk_lt h.a.b3
  have h6 := blk_lt h.a.b6
  have h0 := h.a.hb.size
  exact ⟨h.below hb, hx, Kd.R_nil _ _ _ _ _, by omega, by omega, by omega⟩
theorem OfZ.below (h : OfZ w g3 g6 g11 c3 c6 c11 v xs vb bl W) (hb : Below W.heap.size W W') : OfZ w g3 g6 g11 c3 c6 c11 v xs vb bl W' := ⟨h.l.below hb, blk_below h.b11 hb, Kd.R_below h.rowb hb, h.ge11, h.n11⟩
theorem OfZ.set11 (h : OfZ w g3 g6 g11 c3 c6 c11 v xs vb bl W) (hx : W'.heap[g11]? = some (.cells c' 31 (0, 0))) (ho : Only W W' g11) : OfZ w g3 g6 g11 c3 c6 c' v xs vb bl W' :=
  ⟨⟨h.l.a.far ho h.ge11 h.n11.1 h.n11.2, row_only h.l.row h.b11 (by decide) ho⟩, hx, row_only h.rowb h.b11 (by decide) ho, h.ge11, h.n11⟩
theorem OfZ.set6 (h : OfZ w g3 g6 g11 c3 c6 c11 v xs vb bl W) (hx : W'.heap[g6]? = some (.cells c' 31 (0, 0))) (ho : Only W W' g6) : OfZ w g3 g6 g11 c3 c' c11 v xs vb bl W' :=
  ⟨h.l.set6 hx ho, ho.blk h.b11 h.n11.2, row_only h.rowb h.l.a.b6 (by decide) ho, h.ge11, h.n11⟩
theorem OfZ.built {vn : Value} {ln : List Int} (h : OfZ w g3 g6 g11 c3 c6 c11 v xs vb bl W) (hR : Kd.R (Kd.int .u8) 5 W' W.heap.size (fun _ => True) vn ln) (hb : Below W.heap.size W W') : OfZ w g3 g6 g11 c3 c6 c11 v xs vn ln W' :=
  ⟨h.l.below hb, blk_below h.b11 hb, Kd.R_lower hR h.l.a.hb.size, h.ge11, h.n11⟩
theorem of_start {w1 w2 : World} (hg3 : g3 = w.heap.size) (h3 : w1.heap[g3]? = some (.cells c3 23 (0, 0))) (hb3 : Below w.heap.size w w1) (hg6 : g6 = w1.heap.size) (h6 : w2.heap[g6]? = some (.cells c6 31 (0, 0))) (hb6 : Below w1.heap.size w1 w2) : OfA w g3 g6 c3 c6 w2 := by
  have h := blk_lt h3
  have h0 := hb3.size
  exact ⟨below_step hb3 hb6, blk_below h3 hb6, h6, by omega, by omega⟩
end
mutual
def zone_Of.l0 : Nat → List (S28) → Int → List (S28) → List (S28) → Int → Int → ByteArray → Int → Bool → Option (Int × Int × Int × Nat × ByteArray × Int × Int × Nat × ByteArray × List Int × Int)
  | 0, _, _, _, _, _, _, _, _, _ => none
  | k + 1, x1, x2, x8, x25, x26, x27, x278000, x278001, x278002 => if x27 < x26 then (if 0 ≤ x27 then (if x27 < (x25.length : Int) then ((value_Fits.f k x278000 x278001 x278002 ((rd_T28 x25 x27).f0) ((rd_T28 x25 x27).f1) ((rd_T28 x25 x27).f2) ((rd_T28 x25 x27).f3)).bind fun t285 => (if t285 = true then (if ((rd_T28 x25 x27).f0) = 0 then (zone_Of.l0 k x1 x2 x8 x25 x26 (wrap64 (x27 + 1)) x278000 x278001 x278002) else (if x8.length < 3518437208883 then (zone_Of.l0 k x1 x2 (x8 ++ [(⟨(rd_T28 x25 x27).f0, (rd_T28 x25 x27).f1, (rd_T28 x25 x27).f2, (rd_T28 x25 x27).f3⟩ : S28)]) x25 x26 (wrap64 (x27 + 1)) x278000 x278001 x278002) else (none))) else (some (0, 0, 0, (0 : Nat), (⟨#[]⟩ : ByteArray), 0, 0, (0 : Nat), (⟨#[]⟩ : ByteArray), ([] : List Int), 50)))) else (none)) else (none)) else (if x2 = 0 then (zone_Of.j1 k x8 (wrap64 ((x1.length : Int) - (x8.length : Int))) 0 0 (0 : Nat) (⟨#[]⟩ : ByteArray) 0 0 (0 : Nat) (⟨#[]⟩ : ByteArray) ([] : List Int)) else ((bloom_Build.f k x2 x8).bind fun bt290 => (if bt290.2 = 0 then (zone_Of.j1 k x8 (wrap64 ((x1.length : Int) - (x8.length : Int))) 0 0 (0 : Nat) (⟨#[]⟩ : ByteArray) 0 0 (0 : Nat) (⟨#[]⟩ : ByteArray) bt290.1) else (some (0, 0, 0, (0 : Nat), (⟨#[]⟩ : ByteArray), 0, 0, (0 : Nat), (⟨#[]⟩ : ByteArray), ([] : List Int), bt290.2)))))
def zone_Of.j1 : Nat → List (S28) → Int → Int → Int → Nat → ByteArray → Int → Int → Nat → ByteArray → List Int → Option (Int × Int × Int × Nat × ByteArray × Int × Int × Nat × ByteArray × List Int × Int)
  | 0, _, _, _, _, _, _, _, _, _, _, _ => none
  | k + 1, x8, x290000, x290001, x290002, x290003, x290004, x290005, x290006, x290007, x290008, x290009 => if (x8.length : Int) > 0 then ((minCmp.f k x8).bind fun bt294 => ((maxCmp.f k x8).bind fun bt298 => (some (x290000, bt294.1, bt294.2.1, bt294.2.2.1, bt294.2.2.2, bt298.1, bt298.2.1, bt298.2.2.1, bt298.2.2.2, x290009, 0)))) else (some (x290000, x290001, x290002, x290003, x290004, x290005, x290006, x290007, x290008, x290009, 0))
end
def zone_Of.f (k : Nat) (a0_0 : ByteArray) (a0_1 : Int) (a0_2 : Bool) (l1 : List (S28)) (a2 : Int) : Option (Int × Int × Int × Nat × ByteArray × Int × Int × Nat × ByteArray × List Int × Int) := (zone_typed.f a0_0 a0_1 a0_2).bind fun t279 => (if t279 = true then (if (l1.length : Int) > 16777216 then (some (0, 0, 0, (0 : Nat), (⟨#[]⟩ : ByteArray), 0, 0, (0 : Nat), (⟨#[]⟩ : ByteArray), ([] : List Int), 3)) else (if 0 ≤ (l1.length : Int) then (if ((l1.length : Int) : Int).toNat ≤ 7036874417766 then (zone_Of.l0 k l1 a2 (([] : List (S28))) l1 (l1.length : Int) 0 a0_0 a0_1 a0_2) else (none)) else (none))) else (some (0, 0, 0, (0 : Nat), (⟨#[]⟩ : ByteArray), 0, 0, (0 : Nat), (⟨#[]⟩ : ByteArray), ([] : List Int), 150)))
theorem zone_Of.mono_l : ∀ k, (∀ y0 y1 y2 y3 y4 y5 y6 y7 y8, LeO (zone_Of.l0 k y0 y1 y2 y3 y4 y5 y6 y7 y8) (zone_Of.l0 (k + 1) y0 y1 y2 y3 y4 y5 y6 y7 y8)) ∧ (∀ y0 y1 y2 y3 y4 y5 y6 y7 y8 y9 y10, LeO (zone_Of.j1 k y0 y1 y2 y3 y4 y5 y6 y7 y8 y9 y10) (zone_Of.j1 (k + 1) y0 y1 y2 y3 y4 y5 y6 y7 y8 y9 y10))
  | 0 => ⟨fun _ _ _ _ _ _ _ _ _ r h => by simp [zone_Of.l0] at h, fun _ _ _ _ _ _ _ _ _ _ _ r h => by simp [zone_Of.j1] at h⟩
  | k + 1 => by
    obtain ⟨ih0, ih1⟩ := zone_Of.mono_l k
    refine ⟨?_, ?_⟩
    · intro y0 y1 y2 y3 y4 y5 y6 y7 y8
      unfold zone_Of.l0
      repeat' first
      | (with_reducible exact ih0 _ _ _ _ _ _ _ _ _)
      | (with_reducible exact ih1 _ _ _ _ _ _ _ _ _ _ _)
      | (with_reducible exact bloom_Build.mono _ _ _)
      | (with_reducible exact maxCmp.mono _ _)
      | (with_reducible exact minCmp.mono _ _)
      | (with_reducible exact value_Fits.mono _ _ _ _ _ _ _ _)
      | (with_reducible exact LeO.refl _)
      | (with_reducible exact LeO.none _)
      | (with_reducible refine LeO.ite ?_ ?_)
      | (with_reducible refine LeO.bind ?_ (fun _ => ?_))
      | exact ih0 _ _ _ _ _ _ _ _ _
      | exact ih1 _ _ _ _ _ _ _ _ _ _ _
      | exact bloom_Build.mono _ _ _
      | exact maxCmp.mono _ _
      | exact minCmp.mono _ _
      | exact value_Fits.mono _ _ _ _ _ _ _ _
      | exact LeO.none _
      | refine LeO.ite ?_ ?_
      | refine LeO.bind ?_ (fun _ => ?_)
    · intro y0 y1 y2 y3 y4 y5 y6 y7 y8 y9 y10
      unfold zone_Of.j1
      repeat' first
      | (with_reducible exact ih0 _ _ _ _ _ _ _ _ _)
      | (with_reducible exact ih1 _ _ _ _ _ _ _ _ _ _ _)
      | (with_reducible exact bloom_Build.mono _ _ _)
      | (with_reducible exact maxCmp.mono _ _)
      | (with_reducible exact minCmp.mono _ _)
      | (with_reducible exact value_Fits.mono _ _ _ _ _ _ _ _)
      | (with_reducible exact LeO.refl _)
      | (with_reducible exact LeO.none _)
      | (with_reducible refine LeO.ite ?_ ?_)
      | (with_reducible refine LeO.bind ?_ (fun _ => ?_))
      | exact ih0 _ _ _ _ _ _ _ _ _
      | exact ih1 _ _ _ _ _ _ _ _ _ _ _
      | exact bloom_Build.mono _ _ _
      | exact maxCmp.mono _ _
      | exact minCmp.mono _ _
      | exact value_Fits.mono _ _ _ _ _ _ _ _
      | exact LeO.none _
      | refine LeO.ite ?_ ?_
      | refine LeO.bind ?_ (fun _ => ?_)
theorem zone_Of.mono : ∀ a0 a1 a2 a3 a4 k, LeO (zone_Of.f k a0 a1 a2 a3 a4) (zone_Of.f (k + 1) a0 a1 a2 a3 a4) := by
  intro a0 a1 a2 a3 a4 k
  obtain ⟨ih0, ih1⟩ := zone_Of.mono_l k
  unfold zone_Of.f
  repeat' first
      | (with_reducible exact ih0 _ _ _ _ _ _ _ _ _)
      | (with_reducible exact ih1 _ _ _ _ _ _ _ _ _ _ _)
      | (with_reducible exact bloom_Build.mono _ _ _)
      | (with_reducible exact maxCmp.mono _ _)
      | (with_reducible exact minCmp.mono _ _)
      | (with_reducible exact value_Fits.mono _ _ _ _ _ _ _ _)
      | (with_reducible exact LeO.refl _)
      | (with_reducible exact LeO.none _)
      | (with_reducible refine LeO.ite ?_ ?_)
      | (with_reducible refine LeO.bind ?_ (fun _ => ?_))
      | exact ih0 _ _ _ _ _ _ _ _ _
      | exact ih1 _ _ _ _ _ _ _ _ _ _ _
      | exact bloom_Build.mono _ _ _
      | exact maxCmp.mono _ _
      | exact minCmp.mono _ _
      | exact value_Fits.mono _ _ _ _ _ _ _ _
      | exact LeO.none _
      | refine LeO.ite ?_ ?_
      | refine LeO.bind ?_ (fun _ => ?_)

set_option maxHeartbeats 8000000 in
set_option maxRecDepth 100000 in
theorem zone_Of.calls (k : Nat) (a0_0 : ByteArray) (a0_1 : Int) (a0_2 : Bool) (A1 : Option Addr) (c1 : Nat) (l1 : List (S28)) (a2 : Int) (r1 : Int) (r2 : Int) (r3 : Int) (r4 : Nat) (r5 : ByteArray) (r6 : Int) (r7 : Int) (r8 : Nat) (r9 : ByteArray) (r10 : List Int) (r11 : Int) (w : World) (hr1 : Kd.C k28 w A1 l1.length l1) (hc1 : l1.length ≤ c1) (h : zone_Of.f k a0_0 a0_1 a0_2 l1 a2 = some (r1, r2, r3, r4, r5, r6, r7, r8, r9, r10, r11)) :
    Calls Try.prog 14 #[.agg #[.string a0_0, .int .i64 a0_1, .bool a0_2], .slice A1 l1.length c1, .int .i64 a2] w fun e w' => ∃ v9_ : Value, e = .returned (.tuple #[.agg #[.int .i64 r1, .int .i64 r2, .int .i64 r3, .float .f64 r4, .string r5, .int .i64 r6, .int .i64 r7, .float .f64 r8, .string r9, v9_], .int .i64 r11]) ∧ Kd.R (Kd.int .u8) 5 w' w.heap.size (fun _ => True) v9_ r10 ∧ Below w.heap.size w w' := by
  have hu23 := Try.underlying23
  have hu31 := Try.underlying31
  have hu28 := Try.underlying28
  have HR1 := Aside0.mk hr1
  have HC1 := Aside0.mk hc1
  clear hr1 hc1
  unfold zone_Of.f at h
  replace h := Option.bind_eq_some_iff.mp h
  obtain ⟨t, A1_, h⟩ := h
  (try dsimp only at h)
  have A1 := Aside0.mk A1_
  clear A1_
  cases t with
  | false =>
    rw [if_neg (by decide)] at h
    simp only [Option.some.injEq, Prod.mk.injEq] at h
    obtain ⟨rfl, rfl, rfl, rfl, rfl, rfl, rfl, rfl, rfl, rfl, rfl⟩ := h
    go_enter Try.func14, Try.ntmps14
    go_upto_region 1 with (first | ((with_reducible refine gate_dst (N := 3) rfl ?_); refine box_event ?hg (N := 3) ?hd (cs := #[.string a0_0, .int .i64 a0_1, .bool a0_2]) (t := 23) ?hr ?_; (case hd => rfl); (case hg => rfl); (case hr => first | (go_simp; done) | (go_simp; rfl)); intro g3 hg_ w1 hbox hb_; have HG_ := Aside0.mk hg_; have HX_ := Aside0.mk hbox; have HY_ := Aside0.mk hb_; clear hg_ hbox hb_; have HG2 := HG_; have HX2 := HX_; have HB2 := HY_; clear HX_ HY_ HG_) | ((with_reducible refine gate_dst (N := 6) rfl ?_); refine box_event ?hg (N := 6) ?hd (cs := #[.int .i64 0, .int .i64 0, .int .i64 0, .float .f64 0, .string ⟨#[]⟩, .int .i64 0, .int .i64 0, .float .f64 0, .string ⟨#[]⟩, .slice none 0 0]) (t := 31) ?hr ?_; (case hd => rfl); (case hg => rfl); (case hr => first | (go_simp; done) | (go_simp; rfl)); intro g6 hg_ w2 hbox hb_; have HG_ := Aside0.mk hg_; have HX_ := Aside0.mk hbox; have HY_ := Aside0.mk hb_; clear hg_ hbox hb_; have HT := Aside0.mk (of_start HG2.out HX2.out HB2.out HG_.out HX_.out HY_.out); clear HG2 HX2 HB2; clear HX_ HY_ HG_))
    go_wp2_with (first | ((with_reducible refine gate_dst (N := 14) rfl ?_); refine ld_blk (d := (.struct _)) rfl 23 _ rfl (by rfl) (HT.out.b3) hu23 rfl (by kernel_rfl) ?_) | ((with_reducible refine gate_callee (f := 48) rfl ?_); (with_reducible refine gate_dst (N := 15) rfl ?_); refine goesQ 15 Try.func48 #[.agg #[.string a0_0, .int .i64 a0_1, .bool a0_2]] ?_; refine (zone_typed.calls a0_0 a0_1 a0_2 false _ A1.out).mono ?_; rintro e w3 ⟨rfl, hb_⟩; refine ⟨_, rfl, ?_⟩; have HT1 := Aside0.mk (HT.out.below hb_); clear HT; have HT := HT1; clear HT1; clear hb_) | ((with_reducible refine gate_store (p := 6) rfl ?_); refine st_blk rfl 31 _ _ rfl rfl #[.int .i64 0, .int .i64 0, .int .i64 0, .float .f64 0, .string ⟨#[]⟩, .int .i64 0, .int .i64 0, .float .f64 0, .string ⟨#[]⟩, .slice none 0 0] (by rfl) (by rfl) (HT.out.b6) (by rfl) (by kernel_rfl) (by simp [Value.oneCell']) ?_; intro w4 hx_ ho_; have HT1 := Aside0.mk (HT.out.set6 hx_ ho_); clear HT; have HT := HT1; clear HT1; clear hx_ ho_))
    refine bodyPost_ret (results_ct rfl _ _ g6 31 #[.int .i64 0, .int .i64 0, .int .i64 0, .float .f64 0, .string ⟨#[]⟩, .int .i64 0, .int .i64 0, .float .f64 0, .string ⟨#[]⟩, .slice none 0 0] (0, 0) _ rfl HT.out.b6 hu31 rfl (by kernel_rfl)) rfl ?_
    exact ⟨_, rfl, Kd.R_nil _ _ _ _ _, HT.out.hb⟩
  | true =>
    rw [if_pos rfl] at h
    by_cases c6 : (l1.length : Int) > 16777216
    · rw [if_pos c6] at h
      have c6b : decide (16777216 < l1.length) = true := decide_eq_true (by omega)
      have c6c : decide ((16777216 : Int) < (l1.length : Int)) = true := decide_eq_true c6
      clear c6
      simp only [Option.some.injEq, Prod.mk.injEq] at h
      obtain ⟨rfl, rfl, rfl, rfl, rfl, rfl, rfl, rfl, rfl, rfl, rfl⟩ := h
      go_enter Try.func14, Try.ntmps14
      go_upto_region 1 with (first | ((with_reducible refine gate_dst (N := 3) rfl ?_); refine box_event ?hg (N := 3) ?hd (cs := #[.string a0_0, .int .i64 a0_1, .bool a0_2]) (t := 23) ?hr ?_; (case hd => rfl); (case hg => rfl); (case hr => first | (go_simp; done) | (go_simp; rfl)); intro g3 hg_ w1 hbox hb_; have HG_ := Aside0.mk hg_; have HX_ := Aside0.mk hbox; have HY_ := Aside0.mk hb_; clear hg_ hbox hb_; have HG2 := HG_; have HX2 := HX_; have HB2 := HY_; clear HX_ HY_ HG_) | ((with_reducible refine gate_dst (N := 6) rfl ?_); refine box_event ?hg (N := 6) ?hd (cs := #[.int .i64 0, .int .i64 0, .int .i64 0, .float .f64 0, .string ⟨#[]⟩, .int .i64 0, .int .i64 0, .float .f64 0, .string ⟨#[]⟩, .slice none 0 0]) (t := 31) ?hr ?_; (case hd => rfl); (case hg => rfl); (case hr => first | (go_simp; done) | (go_simp; rfl)); intro g6 hg_ w2 hbox hb_; have HG_ := Aside0.mk hg_; have HX_ := Aside0.mk hbox; have HY_ := Aside0.mk hb_; clear hg_ hbox hb_; have HT := Aside0.mk (of_start HG2.out HX2.out HB2.out HG_.out HX_.out HY_.out); clear HG2 HX2 HB2; clear HX_ HY_ HG_))
      go_wp2_with (first | ((with_reducible refine gate_dst (N := 14) rfl ?_); refine ld_blk (d := (.struct _)) rfl 23 _ rfl (by rfl) (HT.out.b3) hu23 rfl (by kernel_rfl) ?_) | ((with_reducible refine gate_callee (f := 48) rfl ?_); (with_reducible refine gate_dst (N := 15) rfl ?_); refine goesQ 15 Try.func48 #[.agg #[.string a0_0, .int .i64 a0_1, .bool a0_2]] ?_; refine (zone_typed.calls a0_0 a0_1 a0_2 true _ A1.out).mono ?_; rintro e w3 ⟨rfl, hb_⟩; refine ⟨_, rfl, ?_⟩; have HT1 := Aside0.mk (HT.out.below hb_); clear HT; have HT := HT1; clear HT1; clear hb_) | ((with_reducible refine gate_store (p := 6) rfl ?_); refine st_blk rfl 31 _ _ rfl rfl #[.int .i64 0, .int .i64 0, .int .i64 0, .float .f64 0, .string ⟨#[]⟩, .int .i64 0, .int .i64 0, .float .f64 0, .string ⟨#[]⟩, .slice none 0 0] (by rfl) (by rfl) (HT.out.b6) (by rfl) (by kernel_rfl) (by simp [Value.oneCell']) ?_; intro w4 hx_ ho_; have HT1 := Aside0.mk (HT.out.set6 hx_ ho_); clear HT; have HT := HT1; clear HT1; clear hx_ ho_))
      refine bodyPost_ret (results_ct rfl _ _ g6 31 #[.int .i64 0, .int .i64 0, .int .i64 0, .float .f64 0, .string ⟨#[]⟩, .int .i64 0, .int .i64 0, .float .f64 0, .string ⟨#[]⟩, .slice none 0 0] (0, 0) _ rfl HT.out.b6 hu31 rfl (by kernel_rfl)) rfl ?_
      exact ⟨_, rfl, Kd.R_nil _ _ _ _ _, HT.out.hb⟩
    · rw [if_neg c6] at h
      have c6b : decide (16777216 < l1.length) = false := decide_eq_false (by omega)
      have c6c : decide ((16777216 : Int) < (l1.length : Int)) = false := decide_eq_false c6
      rw [if_pos (by omega), if_pos (by omega)] at h
      have hlen : Aside0 (l1.length ≤ 16777216) := ⟨by omega⟩
      clear c6
      have H := Aside0.mk h
      clear h
      go_enter Try.func14, Try.ntmps14
      go_wp2_with (first | ((with_reducible refine gate_dst (N := 3) rfl ?_); refine box_event ?hg (N := 3) ?hd (cs := #[.string a0_0, .int .i64 a0_1, .bool a0_2]) (t := 23) ?hr ?_; (case hd => rfl); (case hg => rfl); (case hr => first | (go_simp; done) | (go_simp; rfl)); intro g3 hg_ w1 hbox hb_; have HG_ := Aside0.mk hg_; have HX_ := Aside0.mk hbox; have HY_ := Aside0.mk hb_; clear hg_ hbox hb_; have HG2 := HG_; have HX2 := HX_; have HB2 := HY_; clear HX_ HY_ HG_) | ((with_reducible refine gate_dst (N := 6) rfl ?_); refine box_event ?hg (N := 6) ?hd (cs := #[.int .i64 0, .int .i64 0, .int .i64 0, .float .f64 0, .string ⟨#[]⟩, .int .i64 0, .int .i64 0, .float .f64 0, .string ⟨#[]⟩, .slice none 0 0]) (t := 31) ?hr ?_; (case hd => rfl); (case hg => rfl); (case hr => first | (go_simp; done) | (go_simp; rfl)); intro g6 hg_ w2 hbox hb_; have HG_ := Aside0.mk hg_; have HX_ := Aside0.mk hbox; have HY_ := Aside0.mk hb_; clear hg_ hbox hb_; have HT := Aside0.mk (of_start HG2.out HX2.out HB2.out HG_.out HX_.out HY_.out); clear HG2 HX2 HB2; clear HX_ HY_ HG_) | ((with_reducible refine gate_dst (N := 14) rfl ?_); refine ld_blk (d := (.struct _)) rfl 23 _ rfl (by rfl) (HT.out.b3) hu23 rfl (by kernel_rfl) ?_) | ((with_reducible refine gate_callee (f := 48) rfl ?_); (with_reducible refine gate_dst (N := 15) rfl ?_); refine goesQ 15 Try.func48 #[.agg #[.string a0_0, .int .i64 a0_1, .bool a0_2]] ?_; refine (zone_typed.calls a0_0 a0_1 a0_2 true _ A1.out).mono ?_; rintro e w3 ⟨rfl, hb_⟩; refine ⟨_, rfl, ?_⟩; have HT1 := Aside0.mk (HT.out.below hb_); clear HT; have HT := HT1; clear HT1; clear hb_) | ((with_reducible refine gate_dst (N := 24) rfl ?_); refine Kd.R_make0 k28 _ 28 rfl (N := 24) rfl 24 _ _ rfl (l1.length : Int) rfl rfl Try.underlying24 (.agg #[(.int .i64 0), (.int .i64 0), (.float .f64 0), (.string ⟨#[]⟩)]) 40 ofInfo28 rfl (by decide) (by omega) z28 (ok := fun _ => True) (okp := fun _ => True) (k28_mkM _ _ _ z28) (fun _ hk => hk) trivial (by omega) (by have := hlen.out; omega) (Below.refl _ _) (Nat.le_refl _) ?_; intro v8 w5 hr_ hb_ hg_ hnew_; clear hg_ hnew_; have HL := Aside0.mk (OfL.mk (HT.out.below hb_) (Kd.R_lower hr_ HT.out.hb.size)); clear hr_ hb_ HT))
      go_loopg [8, 27] k (fun kq v8 v27 w' => ∃ (xs : List S28) (i : Int), v27 = .int .i64 i ∧ Aside0 (zone_Of.l0 kq l1 a2 xs l1 (l1.length : Int) i a0_0 a0_1 a0_2 = some (r1, r2, r3, r4, r5, r6, r7, r8, r9, r10, r11)) ∧ Aside0 (kq ≤ k) ∧ Aside0 (OfL w g3 g6 #[.string a0_0, .int .i64 a0_1, .bool a0_2] #[.int .i64 0, .int .i64 0, .int .i64 0, .float .f64 0, .string ⟨#[]⟩, .int .i64 0, .int .i64 0, .float .f64 0, .string ⟨#[]⟩, .slice none 0 0] v8 xs w'))
      case atStart => exact ⟨[], 0, rfl, H, ⟨Nat.le_refl _⟩, HL⟩
      case round =>
        clear H HL
        obtain ⟨xs, i, rfl, HA, HK1, HL⟩ := hrel
        cases gk with
        | zero => exact absurd HA.out (by simp [zone_Of.l0])
        | succ k1 =>
        have h := HA.out
        clear HA
        simp only [zone_Of.l0] at h
        by_cases c1 : i < (l1.length : Int)
        · rw [if_pos c1] at h
          by_cases c2 : 0 ≤ i
          rotate_left
          · rw [if_neg c2] at h
            exact absurd h (by simp)
          rw [if_pos c2, if_pos c1] at h
          replace h := Option.bind_eq_some_iff.mp h
          obtain ⟨t, A2_, h⟩ := h
          (try dsimp only at h)
          have A2 := Aside0.mk A2_
          clear A2_
          obtain ⟨ad, ea, hx0, hx1, hx2, hx3⟩ := at_T28 HR1.out i c2 c1
          cases ea
          have HBw := HL.out.a.hb
          replace hx0 := (HBw.cell (World.block_lt_of_cell? w _ hx0)).trans hx0
          replace hx1 := (HBw.cell (World.block_lt_of_cell? w _ hx1)).trans hx1
          replace hx2 := (HBw.cell (World.block_lt_of_cell? w _ hx2)).trans hx2
          replace hx3 := (HBw.cell (World.block_lt_of_cell? w _ hx3)).trans hx3
          clear HBw
          have c1b : decide (i < (l1.length : Int)) = true := decide_eq_true c1
          have c2b : decide (0 ≤ i) = true := decide_eq_true c2
          replace c1 := eq_true c1
          replace c2 := eq_true c2
          cases t with
          | false =>
            rw [if_neg (by decide)] at h
            simp only [Option.some.injEq, Prod.mk.injEq] at h
            obtain ⟨rfl, rfl, rfl, rfl, rfl, rfl, rfl, rfl, rfl, rfl, rfl⟩ := h
            go_wp2_with (first | ((with_reducible refine gate_dst (N := 10) rfl ?_); refine box_event ?hg (N := 10) ?hd (cs := #[.int .i64 0, .int .i64 0, .float .f64 0, .string ⟨#[]⟩]) (t := 28) ?hr ?_; (case hd => rfl); (case hg => rfl); (case hr => first | (go_simp; done) | (go_simp; rfl)); intro g10 hg_ w6 hbox hb_; have HG_ := Aside0.mk hg_; have HX_ := Aside0.mk hbox; have HY_ := Aside0.mk hb_; clear hg_ hbox hb_; have HT := Aside0.mk (OfR.start HL.out HG_.out HX_.out HY_.out); clear HL; clear HX_ HY_ HG_) | ((with_reducible refine gate_store (p := 10) rfl ?_); refine st_blk rfl 28 _ _ rfl rfl #[.int .i64 (rd_T28 l1 i).f0, .int .i64 (rd_T28 l1 i).f1, .float .f64 (rd_T28 l1 i).f2, .string (rd_T28 l1 i).f3] (by rfl) (by rfl) (HT.out.b10) (by rfl) (by kernel_rfl) (by simp [Value.oneCell']) ?_; intro w7 hx_ ho_; have HT1 := Aside0.mk (HT.out.set10 hx_ ho_); clear HT; have HT := HT1; clear HT1; clear hx_ ho_; clear hx0 hx1 hx2 hx3) | ((with_reducible refine gate_dst (N := 31) rfl ?_); refine ld_blk (d := (.struct _)) rfl 23 _ rfl (by rfl) (HT.out.a.b3) hu23 rfl (by kernel_rfl) ?_) | ((with_reducible refine gate_dst (N := 32) rfl ?_); refine ld_blk (d := (.struct _)) rfl 28 _ rfl (by rfl) (HT.out.b10) hu28 rfl (by kernel_rfl) ?_) | ((with_reducible refine gate_callee (f := 49) rfl ?_); (with_reducible refine gate_dst (N := 33) rfl ?_); refine goesQ 33 Try.func49 #[.agg #[.string a0_0, .int .i64 a0_1, .bool a0_2], .agg #[.int .i64 (rd_T28 l1 i).f0, .int .i64 (rd_T28 l1 i).f1, .float .f64 (rd_T28 l1 i).f2, .string (rd_T28 l1 i).f3]] ?_; refine (value_Fits.calls k1 a0_0 a0_1 a0_2 (rd_T28 l1 i).f0 (rd_T28 l1 i).f1 (rd_T28 l1 i).f2 (rd_T28 l1 i).f3 false _ A2.out).mono ?_; rintro e w8 ⟨rfl, hb_⟩; refine ⟨_, rfl, ?_⟩; have HT1 := Aside0.mk (HT.out.below hb_); clear HT; have HT := HT1; clear HT1; clear hb_; have z0_ := (blk_cell HT.out.b10 0).trans rfl) | ((with_reducible refine gate_store (p := 6) rfl ?_); refine st_blk rfl 31 _ _ rfl rfl #[.int .i64 0, .int .i64 0, .int .i64 0, .float .f64 0, .string ⟨#[]⟩, .int .i64 0, .int .i64 0, .float .f64 0, .string ⟨#[]⟩, .slice none 0 0] (by rfl) (by rfl) (HT.out.a.b6) (by rfl) (by kernel_rfl) (by simp [Value.oneCell']) ?_; intro w9 hx_ ho_; have HT1 := Aside0.mk (HT.out.set6 hx_ ho_); clear HT; have HT := HT1; clear HT1; clear hx_ ho_))
            refine bodyPost_ret (results_ct rfl _ _ g6 31 #[.int .i64 0, .int .i64 0, .int .i64 0, .float .f64 0, .string ⟨#[]⟩, .int .i64 0, .int .i64 0, .float .f64 0, .string ⟨#[]⟩, .slice none 0 0] (0, 0) _ rfl HT.out.b6 hu31 rfl (by kernel_rfl)) rfl ?_
            exact ⟨_, rfl, Kd.R_nil _ _ _ _ _, HT.out.hb⟩
          | true =>
            rw [if_pos rfl] at h
            by_cases c3 : (rd_T28 l1 i).f0 = 0
            · rw [if_pos c3] at h
              have c3b : ((rd_T28 l1 i).f0 == 0) = true := beq_iff_eq.mpr c3
              have c3c : ((rd_T28 l1 i).f0 != 0) = false := bne_eq_false_iff_eq.mpr c3
              clear c3
              have H := Aside0.mk h
              clear h
              go_wp2_with (first | ((with_reducible refine gate_dst (N := 10) rfl ?_); refine box_event ?hg (N := 10) ?hd (cs := #[.int .i64 0, .int .i64 0, .float .f64 0, .string ⟨#[]⟩]) (t := 28) ?hr ?_; (case hd => rfl); (case hg => rfl); (case hr => first | (go_simp; done) | (go_simp; rfl)); intro g10 hg_ w6 hbox hb_; have HG_ := Aside0.mk hg_; have HX_ := Aside0.mk hbox; have HY_ := Aside0.mk hb_; clear hg_ hbox hb_; have HT := Aside0.mk (OfR.start HL.out HG_.out HX_.out HY_.out); clear HL; clear HX_ HY_ HG_) | ((with_reducible refine gate_store (p := 10) rfl ?_); refine st_blk rfl 28 _ _ rfl rfl #[.int .i64 (rd_T28 l1 i).f0, .int .i64 (rd_T28 l1 i).f1, .float .f64 (rd_T28 l1 i).f2, .string (rd_T28 l1 i).f3] (by rfl) (by rfl) (HT.out.b10) (by rfl) (by kernel_rfl) (by simp [Value.oneCell']) ?_; intro w7 hx_ ho_; have HT1 := Aside0.mk (HT.out.set10 hx_ ho_); clear HT; have HT := HT1; clear HT1; clear hx_ ho_; clear hx0 hx1 hx2 hx3) | ((with_reducible refine gate_dst (N := 31) rfl ?_); refine ld_blk (d := (.struct _)) rfl 23 _ rfl (by rfl) (HT.out.a.b3) hu23 rfl (by kernel_rfl) ?_) | ((with_reducible refine gate_dst (N := 32) rfl ?_); refine ld_blk (d := (.struct _)) rfl 28 _ rfl (by rfl) (HT.out.b10) hu28 rfl (by kernel_rfl) ?_) | ((with_reducible refine gate_callee (f := 49) rfl ?_); (with_reducible refine gate_dst (N := 33) rfl ?_); refine goesQ 33 Try.func49 #[.agg #[.string a0_0, .int .i64 a0_1, .bool a0_2], .agg #[.int .i64 (rd_T28 l1 i).f0, .int .i64 (rd_T28 l1 i).f1, .float .f64 (rd_T28 l1 i).f2, .string (rd_T28 l1 i).f3]] ?_; refine (value_Fits.calls k1 a0_0 a0_1 a0_2 (rd_T28 l1 i).f0 (rd_T28 l1 i).f1 (rd_T28 l1 i).f2 (rd_T28 l1 i).f3 true _ A2.out).mono ?_; rintro e w8 ⟨rfl, hb_⟩; refine ⟨_, rfl, ?_⟩; have HT1 := Aside0.mk (HT.out.below hb_); clear HT; have HT := HT1; clear HT1; clear hb_; have z0_ := (blk_cell HT.out.b10 0).trans rfl))
              go_roundg k1
              case measure => have := HK1.out; omega
              case rel => exact ⟨xs, wrap64 (i + 1), rfl, H, ⟨by have := HK1.out; omega⟩, ⟨HT.out.done⟩⟩
            · rw [if_neg c3] at h
              have c3b : ((rd_T28 l1 i).f0 == 0) = false := beq_eq_false_iff_ne.mpr c3
              have c3c : ((rd_T28 l1 i).f0 != 0) = true := bne_iff_ne.mpr c3
              clear c3
              by_cases c4 : xs.length < 3518437208883
              rotate_left
              · rw [if_neg c4] at h
                exact absurd h (by simp)
              rw [if_pos c4] at h
              have LM := Aside0.mk c4
              clear c4
              have H := Aside0.mk h
              clear h
              go_wp2_with (first | ((with_reducible refine gate_dst (N := 10) rfl ?_); refine box_event ?hg (N := 10) ?hd (cs := #[.int .i64 0, .int .i64 0, .float .f64 0, .string ⟨#[]⟩]) (t := 28) ?hr ?_; (case hd => rfl); (case hg => rfl); (case hr => first | (go_simp; done) | (go_simp; rfl)); intro g10 hg_ w6 hbox hb_; have HG_ := Aside0.mk hg_; have HX_ := Aside0.mk hbox; have HY_ := Aside0.mk hb_; clear hg_ hbox hb_; have HT := Aside0.mk (OfR.start HL.out HG_.out HX_.out HY_.out); clear HL; clear HX_ HY_ HG_) | ((with_reducible refine gate_store (p := 10) rfl ?_); refine st_blk rfl 28 _ _ rfl rfl #[.int .i64 (rd_T28 l1 i).f0, .int .i64 (rd_T28 l1 i).f1, .float .f64 (rd_T28 l1 i).f2, .string (rd_T28 l1 i).f3] (by rfl) (by rfl) (HT.out.b10) (by rfl) (by kernel_rfl) (by simp [Value.oneCell']) ?_; intro w7 hx_ ho_; have HT1 := Aside0.mk (HT.out.set10 hx_ ho_); clear HT; have HT := HT1; clear HT1; clear hx_ ho_; clear hx0 hx1 hx2 hx3) | ((with_reducible refine gate_dst (N := 31) rfl ?_); refine ld_blk (d := (.struct _)) rfl 23 _ rfl (by rfl) (HT.out.a.b3) hu23 rfl (by kernel_rfl) ?_) | ((with_reducible refine gate_dst (N := 32) rfl ?_); refine ld_blk (d := (.struct _)) rfl 28 _ rfl (by rfl) (HT.out.b10) hu28 rfl (by kernel_rfl) ?_) | ((with_reducible refine gate_callee (f := 49) rfl ?_); (with_reducible refine gate_dst (N := 33) rfl ?_); refine goesQ 33 Try.func49 #[.agg #[.string a0_0, .int .i64 a0_1, .bool a0_2], .agg #[.int .i64 (rd_T28 l1 i).f0, .int .i64 (rd_T28 l1 i).f1, .float .f64 (rd_T28 l1 i).f2, .string (rd_T28 l1 i).f3]] ?_; refine (value_Fits.calls k1 a0_0 a0_1 a0_2 (rd_T28 l1 i).f0 (rd_T28 l1 i).f1 (rd_T28 l1 i).f2 (rd_T28 l1 i).f3 true _ A2.out).mono ?_; rintro e w8 ⟨rfl, hb_⟩; refine ⟨_, rfl, ?_⟩; have HT1 := Aside0.mk (HT.out.below hb_); clear HT; have HT := HT1; clear HT1; clear hb_; have z0_ := (blk_cell HT.out.b10 0).trans rfl) | ((with_reducible refine gate_dst (N := 40) rfl ?_); refine ld_blk (d := (.struct _)) rfl 28 _ rfl (by rfl) (HT.out.b10) hu28 rfl (by kernel_rfl) ?_) | ((with_reducible refine gate_builtin (b := .append) (xs := #[.tmp 39, .tmp 41]) rfl ?_); at_builtin; refine Kd.R_append k28 (w0 := w) w.heap.size rfl (.tmp 39) (.tmp 41) 24 28 (.agg #[(.int .i64 0), (.int .i64 0), (.float .f64 0), (.string ⟨#[]⟩)]) 40 rfl Try.underlying24 ofInfo28 rfl (by decide) (by omega) u8 xs (⟨(rd_T28 l1 i).f0, (rd_T28 l1 i).f1, (rd_T28 l1 i).f2, (rd_T28 l1 i).f3⟩ : S28) [.int .i64 (rd_T28 l1 i).f0, .int .i64 (rd_T28 l1 i).f1, .float .f64 (rd_T28 l1 i).f2, .string (rd_T28 l1 i).f3] (fun k_ => k_ ≠ g10) (fun _ => False) rfl rfl ?aP (fun _ hk => hk.elim) ?aF ?aO ?aB ?aS ?aL ?_; (case aP => exact k28_mkM _ _ _ (⟨(rd_T28 l1 i).f0, (rd_T28 l1 i).f1, (rd_T28 l1 i).f2, (rd_T28 l1 i).f3⟩ : S28)); (case aB => exact HT.out.a.hb); (case aF => exact fun k_ hk => by have := blk_lt HT.out.b10; omega); (case aO => exact HT.out.row); (case aS => exact HT.out.a.hb.size); (case aL => have := LM.out; omega); intro v9 w9 hr_ hb_ hg_ hat_; have HL := Aside0.mk (OfR.grown HT.out hr_ hb_ hg_); clear hr_ hb_ hg_ hat_ HT z0_))
              go_roundg k1
              case measure => have := HK1.out; omega
              case rel => exact ⟨xs ++ [(⟨(rd_T28 l1 i).f0, (rd_T28 l1 i).f1, (rd_T28 l1 i).f2, (rd_T28 l1 i).f3⟩ : S28)], wrap64 (i + 1), rfl, H, ⟨by have := HK1.out; omega⟩, HL⟩
        · rw [if_neg c1] at h
          have c1b : decide (i < (l1.length : Int)) = false := decide_eq_false c1
          clear c1
          have H := Aside0.mk h
          clear h
          obtain ⟨Ao, co, eo⟩ := Kd.R_slice HL.out.row
          subst eo
          go_upto_if 51 with (first | ((with_reducible refine gate_dst (N := 11) rfl ?_); refine box_event ?hg (N := 11) ?hd (cs := #[.int .i64 0, .int .i64 0, .int .i64 0, .float .f64 0, .string ⟨#[]⟩, .int .i64 0, .int .i64 0, .float .f64 0, .string ⟨#[]⟩, .slice none 0 0]) (t := 31) ?hr ?_; (case hd => rfl); (case hg => rfl); (case hr => first | (go_simp; done) | (go_simp; rfl)); intro g11 hg_ x1 hbox hb_; have HG_ := Aside0.mk hg_; have HX_ := Aside0.mk hbox; have HY_ := Aside0.mk hb_; clear hg_ hbox hb_; have HT := Aside0.mk (OfZ.start HL.out HG_.out HX_.out HY_.out); clear HL; clear HX_ HY_ HG_) | ((with_reducible refine gate_store (p := 11) rfl ?_); refine st_blk rfl 31 _ _ rfl rfl #[.int .i64 (wrap64 ((l1.length : Int) - (xs.length : Int))), .int .i64 0, .int .i64 0, .float .f64 0, .string ⟨#[]⟩, .int .i64 0, .int .i64 0, .float .f64 0, .string ⟨#[]⟩, .slice none 0 0] (by rfl) (by rfl) (HT.out.b11) (by rfl) (by kernel_rfl) (by simp [Value.oneCell']) ?_; intro x2 hx_ ho_; have HT1 := Aside0.mk (HT.out.set11 hx_ ho_); clear HT; have HT := HT1; clear HT1; clear hx_ ho_))
          (try simp only [Act.put, List.setIfInBounds_toArray, List.set_cons_zero, List.set_cons_succ])
          go_cut [] (fun wc => ∃ (kq : Nat) (bl : List Int) (Ab : Option Addr) (cb : Nat), Aside0 (zone_Of.j1 kq xs (wrap64 ((l1.length : Int) - (xs.length : Int))) 0 0 (0 : Nat) (⟨#[]⟩ : ByteArray) 0 0 (0 : Nat) (⟨#[]⟩ : ByteArray) bl = some (r1, r2, r3, r4, r5, r6, r7, r8, r9, r10, r11)) ∧ Aside0 (OfZ w g3 g6 g11 #[.string a0_0, .int .i64 a0_1, .bool a0_2] #[.int .i64 0, .int .i64 0, .int .i64 0, .float .f64 0, .string ⟨#[]⟩, .int .i64 0, .int .i64 0, .float .f64 0, .string ⟨#[]⟩, .slice none 0 0] #[.int .i64 (wrap64 ((l1.length : Int) - (xs.length : Int))), .int .i64 0, .int .i64 0, .float .f64 0, .string ⟨#[]⟩, .int .i64 0, .int .i64 0, .float .f64 0, .string ⟨#[]⟩, .slice Ab bl.length cb] (.slice Ao xs.length co) xs (.slice Ab bl.length cb) bl wc))
          case first =>
            have h := H.out
            clear H
            by_cases e0 : a2 = 0
            · rw [if_pos e0] at h
              have e0b : (a2 != 0) = false := bne_eq_false_iff_eq.mpr e0
              have HJ := Aside0.mk h
              clear h e0
              go_wp2_with (fail)
              go_meet
              exact ⟨_, [], none, 0, HJ, HT⟩
            rw [if_neg e0] at h
            have e0b : (a2 != 0) = true := bne_iff_ne.mpr e0
            clear e0
            replace h := Option.bind_eq_some_iff.mp h
            obtain ⟨⟨bl, e⟩, A3_, h⟩ := h
            (try dsimp only at h)
            have A3 := Aside0.mk A3_
            clear A3_
            by_cases e1 : e = 0
            · subst e1
              rw [if_pos rfl] at h
              have HJ := Aside0.mk h
              clear h
              go_wp2_with (first | ((with_reducible refine gate_callee (f := 50) rfl ?_); (with_reducible refine gate_dst (N := 55) rfl ?_); refine goesQ 55 Try.func50 #[.int .i64 a2, .slice Ao xs.length co] ?_; refine (bloom_Build.calls k1 a2 _ _ xs bl 0 _ (Kd.R_reads' HT.out.l.row).2.2 (Kd.R_reads' HT.out.l.row).2.1 A3.out).mono ?_; rintro e x3 ⟨vb, rfl, hR_, hb_⟩; obtain ⟨Ab, cb, eb⟩ := Kd.R_slice hR_; subst eb; refine ⟨_, rfl, ?_⟩; have HT1 := Aside0.mk (HT.out.built hR_ hb_); clear HT; have HT := HT1; clear HT1; clear hR_ hb_) | ((with_reducible refine gate_store (p := 63) rfl ?_); refine st_fld rfl 29 _ _ rfl rfl (.slice Ab bl.length cb) (by rfl) (by rfl) (HT.out.b11) (by simp) (by kernel_rfl) (by simp [Value.oneCell']) #[.int .i64 (wrap64 ((l1.length : Int) - (xs.length : Int))), .int .i64 0, .int .i64 0, .float .f64 0, .string ⟨#[]⟩, .int .i64 0, .int .i64 0, .float .f64 0, .string ⟨#[]⟩, .slice Ab bl.length cb] (by rfl) (by have z_ := (blk_cell (HT.out.b11) 9).trans rfl; have f_ := blk_frozen (HT.out.b11) 9; go_simp) ?_; intro x4 hx_ ho_; have HT1 := Aside0.mk (HT.out.set11 hx_ ho_); clear HT; have HT := HT1; clear HT1; clear hx_ ho_))
              go_meet
              exact ⟨_, bl, Ab, cb, HJ, HT⟩
            · rw [if_neg e1] at h
              have e1b : (e != 0) = true := bne_iff_ne.mpr e1
              have e1c : (e == 0) = false := beq_eq_false_iff_ne.mpr e1
              clear e1
              simp only [Option.some.injEq, Prod.mk.injEq] at h
              obtain ⟨rfl, rfl, rfl, rfl, rfl, rfl, rfl, rfl, rfl, rfl, rfl⟩ := h
              go_wp2_with (first | ((with_reducible refine gate_callee (f := 50) rfl ?_); (with_reducible refine gate_dst (N := 55) rfl ?_); refine goesQ 55 Try.func50 #[.int .i64 a2, .slice Ao xs.length co] ?_; refine (bloom_Build.calls k1 a2 _ _ xs bl _ _ (Kd.R_reads' HT.out.l.row).2.2 (Kd.R_reads' HT.out.l.row).2.1 A3.out).mono ?_; rintro e x3 ⟨vb, rfl, hR_, hb_⟩; obtain ⟨Ab, cb, eb⟩ := Kd.R_slice hR_; subst eb; refine ⟨_, rfl, ?_⟩; have HT1 := Aside0.mk (HT.out.built hR_ hb_); clear HT; have HT := HT1; clear HT1; clear hR_ hb_) | ((with_reducible refine gate_store (p := 6) rfl ?_); refine st_blk rfl 31 _ _ rfl rfl #[.int .i64 0, .int .i64 0, .int .i64 0, .float .f64 0, .string ⟨#[]⟩, .int .i64 0, .int .i64 0, .float .f64 0, .string ⟨#[]⟩, .slice none 0 0] (by rfl) (by rfl) (HT.out.l.a.b6) (by rfl) (by kernel_rfl) (by simp [Value.oneCell']) ?_; intro x4 hx_ ho_; have HT1 := Aside0.mk (HT.out.set6 hx_ ho_); clear HT; have HT := HT1; clear HT1; clear hx_ ho_))
              refine bodyPost_ret (results_ct rfl _ _ g6 31 #[.int .i64 0, .int .i64 0, .int .i64 0, .float .f64 0, .string ⟨#[]⟩, .int .i64 0, .int .i64 0, .float .f64 0, .string ⟨#[]⟩, .slice none 0 0] (0, 0) _ rfl HT.out.l.a.b6 hu31 rfl (by kernel_rfl)) rfl ?_
              exact ⟨_, rfl, Kd.R_nil _ _ _ _ _, HT.out.l.a.hb⟩
          case rest =>
            obtain ⟨kq, bl, Ab, cb, HJ, HT1⟩ := hcut
            clear HT H
            have HT := HT1
            clear HT1
            obtain ⟨h⟩ := HJ
            cases kq with
            | zero => cases h
            | succ kq =>
            simp only [zone_Of.j1] at h
            by_cases e2 : (xs.length : Int) > 0
            · rw [if_pos e2] at h
              have e2b : decide (0 < xs.length) = true := decide_eq_true (by omega)
              have e2c : decide ((0 : Int) < (xs.length : Int)) = true := decide_eq_true e2
              clear e2
              replace h := Option.bind_eq_some_iff.mp h
              obtain ⟨⟨m1, m2, m3, m4⟩, A4_, h⟩ := h
              (try dsimp only at h)
              have A4 := Aside0.mk A4_
              clear A4_
              replace h := Option.bind_eq_some_iff.mp h
              obtain ⟨⟨n1, n2, n3, n4⟩, A5_, h⟩ := h
              (try dsimp only at h)
              have A5 := Aside0.mk A5_
              clear A5_
              simp only [Option.some.injEq, Prod.mk.injEq] at h
              obtain ⟨rfl, rfl, rfl, rfl, rfl, rfl, rfl, rfl, rfl, rfl, rfl⟩ := h
              go_wp2_with (first | ((with_reducible refine gate_callee (f := 51) rfl ?_); (with_reducible refine gate_dst (N := 68) rfl ?_); refine goesQ 68 Try.func51 #[.slice Ao xs.length co, .func (.func 38) #[] #[]] ?_; refine (minCmp.calls kq _ _ xs m1 m2 m3 m4 _ (Kd.R_reads' HT.out.l.row).2.2 (Kd.R_reads' HT.out.l.row).2.1 A4.out).mono ?_; rintro e y1 ⟨rfl, hb_⟩; refine ⟨_, rfl, ?_⟩; have HT1 := Aside0.mk (HT.out.below hb_); clear HT; have HT := HT1; clear HT1; clear hb_) | ((with_reducible refine gate_callee (f := 52) rfl ?_); (with_reducible refine gate_dst (N := 70) rfl ?_); refine goesQ 70 Try.func52 #[.slice Ao xs.length co, .func (.func 38) #[] #[]] ?_; refine (maxCmp.calls kq _ _ xs n1 n2 n3 n4 _ (Kd.R_reads' HT.out.l.row).2.2 (Kd.R_reads' HT.out.l.row).2.1 A5.out).mono ?_; rintro e y1 ⟨rfl, hb_⟩; refine ⟨_, rfl, ?_⟩; have HT1 := Aside0.mk (HT.out.below hb_); clear HT; have HT := HT1; clear HT1; clear hb_) | ((with_reducible refine gate_store (p := 71) rfl ?_); refine st_rng rfl 28 _ _ rfl rfl #[.int .i64 m1, .int .i64 m2, .float .f64 m3, .string m4] #[.int .i64 (wrap64 ((l1.length : Int) - (xs.length : Int))), .int .i64 m1, .int .i64 m2, .float .f64 m3, .string m4, .int .i64 0, .int .i64 0, .float .f64 0, .string ⟨#[]⟩, .slice Ab bl.length cb] (by rfl) (by rfl) (HT.out.b11) (by simp) (by kernel_rfl) (by simp [Value.oneCell']) (by rfl) ?_; intro y3 hx_ ho_; have HT1 := Aside0.mk (HT.out.set11 hx_ ho_); clear HT; have HT := HT1; clear HT1; clear hx_ ho_) | ((with_reducible refine gate_store (p := 72) rfl ?_); refine st_rng rfl 28 _ _ rfl rfl #[.int .i64 n1, .int .i64 n2, .float .f64 n3, .string n4] #[.int .i64 (wrap64 ((l1.length : Int) - (xs.length : Int))), .int .i64 m1, .int .i64 m2, .float .f64 m3, .string m4, .int .i64 n1, .int .i64 n2, .float .f64 n3, .string n4, .slice Ab bl.length cb] (by rfl) (by rfl) (HT.out.b11) (by simp) (by kernel_rfl) (by simp [Value.oneCell']) (by rfl) ?_; intro y4 hx_ ho_; have HT1 := Aside0.mk (HT.out.set11 hx_ ho_); clear HT; have HT := HT1; clear HT1; clear hx_ ho_) | ((with_reducible refine gate_dst (N := 73) rfl ?_); refine ld_blk (d := (.struct _)) rfl 31 _ rfl (by rfl) (HT.out.b11) hu31 rfl (by kernel_rfl) ?_) | ((with_reducible refine gate_store (p := 6) rfl ?_); refine st_blk rfl 31 _ _ rfl rfl #[.int .i64 (wrap64 ((l1.length : Int) - (xs.length : Int))), .int .i64 m1, .int .i64 m2, .float .f64 m3, .string m4, .int .i64 n1, .int .i64 n2, .float .f64 n3, .string n4, .slice Ab bl.length cb] (by rfl) (by rfl) (HT.out.l.a.b6) (by rfl) (by kernel_rfl) (by simp [Value.oneCell']) ?_; intro y9 hx_ ho_; have HT1 := Aside0.mk (HT.out.set6 hx_ ho_); clear HT; have HT := HT1; clear HT1; clear hx_ ho_))
              refine bodyPost_ret (results_ct rfl _ _ g6 31 #[.int .i64 (wrap64 ((l1.length : Int) - (xs.length : Int))), .int .i64 m1, .int .i64 m2, .float .f64 m3, .string m4, .int .i64 n1, .int .i64 n2, .float .f64 n3, .string n4, .slice Ab bl.length cb] (0, 0) _ rfl HT.out.l.a.b6 hu31 rfl (by kernel_rfl)) rfl ?_
              exact ⟨_, rfl, HT.out.rowb, HT.out.l.a.hb⟩
            · rw [if_neg e2] at h
              have e2b : decide (0 < xs.length) = false := decide_eq_false (by omega)
              have e2c : decide ((0 : Int) < (xs.length : Int)) = false := decide_eq_false e2
              clear e2
              simp only [Option.some.injEq, Prod.mk.injEq] at h
              obtain ⟨rfl, rfl, rfl, rfl, rfl, rfl, rfl, rfl, rfl, rfl, rfl⟩ := h
              go_wp2_with (first | ((with_reducible refine gate_dst (N := 73) rfl ?_); refine ld_blk (d := (.struct _)) rfl 31 _ rfl (by rfl) (HT.out.b11) hu31 rfl (by kernel_rfl) ?_) | ((with_reducible refine gate_store (p := 6) rfl ?_); refine st_blk rfl 31 _ _ rfl rfl #[.int .i64 (wrap64 ((l1.length : Int) - (xs.length : Int))), .int .i64 0, .int .i64 0, .float .f64 0, .string ⟨#[]⟩, .int .i64 0, .int .i64 0, .float .f64 0, .string ⟨#[]⟩, .slice Ab bl.length cb] (by rfl) (by rfl) (HT.out.l.a.b6) (by rfl) (by kernel_rfl) (by simp [Value.oneCell']) ?_; intro y9 hx_ ho_; have HT1 := Aside0.mk (HT.out.set6 hx_ ho_); clear HT; have HT := HT1; clear HT1; clear hx_ ho_))
              refine bodyPost_ret (results_ct rfl _ _ g6 31 #[.int .i64 (wrap64 ((l1.length : Int) - (xs.length : Int))), .int .i64 0, .int .i64 0, .float .f64 0, .string ⟨#[]⟩, .int .i64 0, .int .i64 0, .float .f64 0, .string ⟨#[]⟩, .slice Ab bl.length cb] (0, 0) _ rfl HT.out.l.a.b6 hu31 rfl (by kernel_rfl)) rfl ?_
              exact ⟨_, rfl, HT.out.rowb, HT.out.l.a.hb⟩
end Go.Proofs.Ythiidgmemoineaa.Pa
