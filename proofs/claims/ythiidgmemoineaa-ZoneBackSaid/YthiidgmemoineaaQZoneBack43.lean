/- The texts of ZoneBack, merged: part 43. -/
import Derived.Test.YthiidgmemoineaaQZoneBack41
import Derived.Test.YthiidgmemoineaaQZoneBack16
import Derived.Test.YthiidgmemoineaaQZoneBack42
import Derived.Deep.CutBlock
import Derived.Deep.DeepCutAuto
/- zone.Take: its walk by hand. -/
namespace Go.Proofs.Ythiidgmemoineaa.Pa
open Go.Proofs.Ythiidgmemoineaa.L Go.RowKit Go.Proofs.YthiidgmemoineaaW.PrintWords Go.Proofs.YthiidgmemoineaaW.PrintLast Go.Proofs.YthiidgmemoineaaW.PrintMore
attribute [local go_sem] max2_int min2_int max_two min_two max_three min_three max_four min_four
attribute [local go_sem] run_store_float cmp_feq cmp_fne cmp_flt cmp_fle cmp_fgt cmp_fge un_fneg equalIn_feq run_fop run_fint run_freal cmp_sgt
set_option linter.unusedVariables false
set_option linter.unusedSimpArgs false
structure TkA (w0 w : World) (g g2 g4 : Nat) (bs : List Int) (at_ f : Int) (c2 c4 : Array Value) (W : World) : Prop where
 hi : IsS92 w0 W g bs at_ f
 hb : Below w0.heap.size w0 W
 hk : KeepBut w W g none
 b2 : W.heap[g2]? = some (.cells c2 23 (0, 0))
 b4 : W.heap[g4]? = some (.cells c4 31 (0, 0))
 w0w : w0.heap.size ≤ w.heap.size
 ge4 : w.heap.size ≤ g4
 n2 : g2 ≠ g ∧ g4 ≠ g ∧ g2 ≠ g4
theorem isg_only {w0 w w1 : World} {g b : Nat} {bs : List Int} {at_ f : Int} (h : IsS92 w0 w g bs at_ f) (ho : Only w w1 b) (hn : b ≠ g) : IsS92 w0 w1 g bs at_ f := by
 obtain ⟨A, c, h1, h2⟩ := h
 exact ⟨A, c, ho.blk h1 hn.symm, h2⟩
theorem keep_only {w W W' : World} {g b : Nat} (h : KeepBut w W g none) (ho : Only W W' b) (hn : w.heap.size ≤ b) : KeepBut w W' g none :=
 ⟨by rw [ho.size]; exact h.1, fun i hi h1 h2 => (ho.block i (by omega)).trans (h.2 i hi h1 h2)⟩
section
variable {w0 w W W' : World} {g g2 g4 g9 : Nat} {bs : List Int} {at_ f at1 f1 : Int} {c2 c4 c9 c' : Array Value} {v : Value} {xs : List Int}
theorem TkA.below (h : TkA w0 w g g2 g4 bs at_ f c2 c4 W) (hb : Below W.heap.size W W') : TkA w0 w g g2 g4 bs at_ f c2 c4 W' :=
 ⟨isg_below h.hi hb, below_step h.hb hb, h.hk.trans (KeepBut.of_below hb g none) (.inl rfl), blk_below h.b2 hb, blk_below h.b4 hb, h.w0w, h.ge4, h.n2⟩
theorem TkA.read (h : TkA w0 w g g2 g4 bs at_ f c2 c4 W) (hi : IsS92 w0 W' g bs at1 f1) (hb : Below w0.heap.size w0 W') (hk : KeepBut W W' g none) : TkA w0 w g g2 g4 bs at1 f1 c2 c4 W' :=
 ⟨hi, hb, h.hk.trans hk (.inl rfl), hk.blk h.b2 h.n2.1 (by simp), hk.blk h.b4 h.n2.2.1 (by simp), h.w0w, h.ge4, h.n2⟩
theorem TkA.set4 (h : TkA w0 w g g2 g4 bs at_ f c2 c4 W) (hx : W'.heap[g4]? = some (.cells c' 31 (0, 0))) (ho : Only W W' g4) : TkA w0 w g g2 g4 bs at_ f c2 c' W' :=
 ⟨isg_only h.hi ho h.n2.2.1, ho.below h.hb (Nat.le_trans h.w0w h.ge4), keep_only h.hk ho h.ge4, ho.blk h.b2 h.n2.2.2, hx, h.w0w, h.ge4, h.n2⟩
structure TkI (w0 w : World) (g g2 g4 g9 : Nat) (bs : List Int) (at_ f : Int) (c2 c4 c9 : Array Value) (v : Value) (xs : List Int) (W : World) : Prop where
 a : TkA w0 w g g2 g4 bs at_ f c2 c4 W
 b9 : W.heap[g9]? = some (.cells c9 31 (0, 0))
 row : Kd.R (Kd.int .u8) 5 W w.heap.size (fun k => k ≠ g ∧ k ≠ g4 ∧ k ≠ g9) v xs
 ge9 : w.heap.size ≤ g9
 n9 : g9 ≠ g ∧ g9 ≠ g4 ∧ g9 ≠ g2
theorem TkI.below (h : TkI w0 w g g2 g4 g9 bs at_ f c2 c4 c9 v xs W) (hb : Below W.heap.size W W') : TkI w0 w g g2 g4 g9 bs at_ f c2 c4 c9 v xs W' :=
 ⟨h.a.below hb, blk_below h.b9 hb, Kd.R_below h.row hb, h.ge9, h.n9⟩
theorem TkI.read (h : TkI w0 w g g2 g4 g9 bs at_ f c2 c4 c9 v xs W) (hi : IsS92 w0 W' g bs at1 f1) (hb : Below w0.heap.size w0 W') (hk : KeepBut W W' g none) : TkI w0 w g g2 g4 g9 bs at1 f1 c2 c4 c9 v xs W' :=
 ⟨h.a.read hi hb hk, hk.blk h.b9 h.n9.1 (by simp), Kd.R_keep h.row hk (fun k hk => hk.1), h.ge9, h.n9⟩
theorem TkI.set4 (h : TkI w0 w g g2 g4 g9 bs at_ f c2 c4 c9 v xs W) (hx : W'.heap[g4]? = some (.cells c' 31 (0, 0))) (ho : Only W W' g4) : TkI w0 w g g2 g4 g9 bs at_ f c2 c' c9 v xs W' :=
 ⟨h.a.set4 hx ho, ho.blk h.b9 h.n9.2.1, Kd.R_step h.row (fun k hk _ => ho.block k hk.2.1), h.ge9, h.n9⟩
theorem TkI.set9 (h : TkI w0 w g g2 g4 g9 bs at_ f c2 c4 c9 v xs W) (hx : W'.heap[g9]? = some (.cells c' 31 (0, 0))) (ho : Only W W' g9) : TkI w0 w g g2 g4 g9 bs at_ f c2 c4 c' v xs W' :=
 ⟨⟨isg_only h.a.hi ho h.n9.1, ho.below h.a.hb (Nat.le_trans h.a.w0w h.ge9), keep_only h.a.hk ho h.ge9, ho.blk h.a.b2 h.n9.2.2.symm, ho.blk h.a.b4 h.n9.2.1.symm, h.a.w0w, h.a.ge4, h.a.n2⟩, hx, Kd.R_step h.row (fun k hk _ => ho.block k hk.2.2), h.ge9, h.n9⟩
theorem TkI.rowed {vb : Value} {l : List Int} (h : TkI w0 w g g2 g4 g9 bs at_ f c2 c4 c9 v xs W) (hR : Kd.R (Kd.int .u8) 5 W' W.heap.size (fun _ => True) vb l) (hi : IsS92 w0 W' g bs at1 f1) (hb : Below w0.heap.size w0 W') (hk : KeepBut W W' g none) : TkI w0 w g g2 g4 g9 bs at1 f1 c2 c4 c9 vb l W' := by
 have r := h.read hi hb hk
 refine ⟨r.a, r.b9, Kd.R_lower (Kd.R_mono (Kd.R_bound hR) (fun k hk => ?_)) h.a.hk.1, r.ge9, r.n9⟩
 have h1 := isg_lt h.a.hi
 have h2 := blk_lt h.a.b4
 have h3 := blk_lt h.b9
 have h4 := hk.2.1
 exact ⟨by omega, by omega, by omega⟩
theorem TkI.start (h : TkA w0 w g g2 g4 bs at_ f c2 c4 W) (hg : g9 = W.heap.size) (hx : W'.heap[g9]? = some (.cells c9 31 (0, 0))) (hb : Below W.heap.size W W') : TkI w0 w g g2 g4 g9 bs at_ f c2 c4 c9 (.slice none 0 0) [] W' := by
 have h1 := isg_lt h.hi
 have h2 := blk_lt h.b4
 have h3 := blk_lt h.b2
 have h4 := h.hk.1
 exact ⟨h.below hb, hx, Kd.R_nil _ _ _ _ _, by omega, by omega, by omega, by omega⟩
end
theorem tk_start {w0 w w1 w2 : World} {g g2 g4 : Nat} {bs : List Int} {at_ f : Int} {c2 c4 : Array Value} (hi : IsS92 w0 w g bs at_ f) (hb : Below w0.heap.size w0 w) (hg2 : g2 = w.heap.size) (h2 : w1.heap[g2]? = some (.cells c2 23 (0, 0))) (hb2 : Below w.heap.size w w1) (hg4 : g4 = w1.heap.size) (h4 : w2.heap[g4]? = some (.cells c4 31 (0, 0))) (hb4 : Below w1.heap.size w1 w2) : TkA w0 w g g2 g4 bs at_ f c2 c4 w2 := by
 have h1 := isg_lt hi
 have h3 := blk_lt h2
 have h5 := hb2.size
 have h6 := below_step hb2 hb4
 exact ⟨isg_below hi h6, below_step hb h6, KeepBut.of_below h6 g none, blk_below h2 hb4, h4, hb.size, by omega, by omega, by omega, by omega⟩
def zone_Take.j0 : Nat → Int → List Int → Int → Int → ByteArray → Int → Bool → Int → Int → Int → Nat → ByteArray → Int → Int → Nat → ByteArray → Option (Int × Int × Int × Nat × ByteArray × Int × Int × Nat × ByteArray × List Int × Int × Int × Int)
 | 0, _, _, _, _, _, _, _, _, _, _, _, _, _, _, _, _ => none
 | k + 1, x6, x2000, x2001, x2002, x584000, x584001, x584002, x596000, x596001, x596002, x596003, x596004, x596005, x596006, x596007, x596008 => (cursor_Reader_Block.f x2000 x2001 x2002 65536).bind fun bt608 => ((cursor_Reader_Fault.f x2000 bt608.2.1 bt608.2.2).bind fun bt613 => (if bt613.1 = 0 then ((zone_may.f k x584000 x584001 x584002 (wrap64 (mn x6 16777217)) x596001 x596002 x596003 x596004 x596005 x596006 x596007 x596008 bt608.1).bind fun t616 => (if t616 = true then (some (wrap64 (mn x6 16777217), x596001, x596002, x596003, x596004, x596005, x596006, x596007, x596008, bt608.1, 0, bt613.2.1, bt613.2.2)) else (some (0, 0, 0, (0 : Nat), (⟨#[]⟩ : ByteArray), 0, 0, (0 : Nat), (⟨#[]⟩ : ByteArray), ([] : List Int), 140, bt613.2.1, bt613.2.2)))) else (some (0, 0, 0, (0 : Nat), (⟨#[]⟩ : ByteArray), 0, 0, (0 : Nat), (⟨#[]⟩ : ByteArray), ([] : List Int), bt613.1, bt613.2.1, bt613.2.2))))
def zone_Take.f (k : Nat) (a0_0 : ByteArray) (a0_1 : Int) (a0_2 : Bool) (s1_0 : List Int) (s1_1 : Int) (s1_2 : Int) : Option (Int × Int × Int × Nat × ByteArray × Int × Int × Nat × ByteArray × List Int × Int × Int × Int) := (zone_typed.f a0_0 a0_1 a0_2).bind fun t585 => (if t585 = true then ((cursor_Reader_Uvarint.f s1_0 s1_1 s1_2).bind fun bt586 => ((cursor_Take_uint8.f s1_0 bt586.2.1 bt586.2.2).bind fun bt589 => ((cursor_Reader_Fault.f s1_0 bt589.2.1 bt589.2.2).bind fun bt592 => (if bt592.1 = 0 then (if bt589.1 = 0 then (zone_Take.j0 k bt586.1 s1_0 bt592.2.1 bt592.2.2 a0_0 a0_1 a0_2 0 0 0 (0 : Nat) (⟨#[]⟩ : ByteArray) 0 0 (0 : Nat) (⟨#[]⟩ : ByteArray)) else (if bt589.1 = 1 then ((zone_take.f a0_0 a0_1 a0_2 s1_0 bt592.2.1 bt592.2.2).bind fun bt596 => ((zone_take.f a0_0 a0_1 a0_2 s1_0 bt596.2.2.2.2.1 bt596.2.2.2.2.2).bind fun bt602 => (zone_Take.j0 k bt586.1 s1_0 bt602.2.2.2.2.1 bt602.2.2.2.2.2 a0_0 a0_1 a0_2 0 bt596.1 bt596.2.1 bt596.2.2.1 bt596.2.2.2.1 bt602.1 bt602.2.1 bt602.2.2.1 bt602.2.2.2.1))) else (some (0, 0, 0, (0 : Nat), (⟨#[]⟩ : ByteArray), 0, 0, (0 : Nat), (⟨#[]⟩ : ByteArray), ([] : List Int), 140, bt592.2.1, bt592.2.2)))) else (some (0, 0, 0, (0 : Nat), (⟨#[]⟩ : ByteArray), 0, 0, (0 : Nat), (⟨#[]⟩ : ByteArray), ([] : List Int), bt592.1, bt592.2.1, bt592.2.2)))))) else (some (0, 0, 0, (0 : Nat), (⟨#[]⟩ : ByteArray), 0, 0, (0 : Nat), (⟨#[]⟩ : ByteArray), ([] : List Int), 150, s1_1, s1_2)))
theorem zone_Take.mono_l : ∀ k, (∀ y0 y1 y2 y3 y4 y5 y6 y7 y8 y9 y10 y11 y12 y13 y14 y15, LeO (zone_Take.j0 k y0 y1 y2 y3 y4 y5 y6 y7 y8 y9 y10 y11 y12 y13 y14 y15) (zone_Take.j0 (k + 1) y0 y1 y2 y3 y4 y5 y6 y7 y8 y9 y10 y11 y12 y13 y14 y15))
 | 0 => fun _ _ _ _ _ _ _ _ _ _ _ _ _ _ _ _ r h => by simp [zone_Take.j0] at h
 | k + 1 => by
  have ih0 := zone_Take.mono_l k
  ·intro y0 y1 y2 y3 y4 y5 y6 y7 y8 y9 y10 y11 y12 y13 y14 y15
   unfold zone_Take.j0
   repeat' first
   | (with_reducible exact ih0 _ _ _ _ _ _ _ _ _ _ _ _ _ _ _ _)
   | (with_reducible exact zone_may.mono _ _ _ _ _ _ _ _ _ _ _ _ _ _)
   | (with_reducible exact LeO.refl _)
   | (with_reducible exact LeO.none _)
   | (with_reducible refine LeO.ite ?_ ?_)
   | (with_reducible refine LeO.bind ?_ (fun _ => ?_))
   | exact ih0 _ _ _ _ _ _ _ _ _ _ _ _ _ _ _ _
   | exact zone_may.mono _ _ _ _ _ _ _ _ _ _ _ _ _ _
   | exact LeO.none _
   | refine LeO.ite ?_ ?_
   | refine LeO.bind ?_ (fun _ => ?_)
theorem zone_Take.mono : ∀ a0 a1 a2 a3 a4 a5 k, LeO (zone_Take.f k a0 a1 a2 a3 a4 a5) (zone_Take.f (k + 1) a0 a1 a2 a3 a4 a5) := by
 intro a0 a1 a2 a3 a4 a5 k
 have ih0 := zone_Take.mono_l k
 unfold zone_Take.f
 repeat' first
   | (with_reducible exact ih0 _ _ _ _ _ _ _ _ _ _ _ _ _ _ _ _)
   | (with_reducible exact zone_may.mono _ _ _ _ _ _ _ _ _ _ _ _ _ _)
   | (with_reducible exact LeO.refl _)
   | (with_reducible exact LeO.none _)
   | (with_reducible refine LeO.ite ?_ ?_)
   | (with_reducible refine LeO.bind ?_ (fun _ => ?_))
   | exact ih0 _ _ _ _ _ _ _ _ _ _ _ _ _ _ _ _
   | exact zone_may.mono _ _ _ _ _ _ _ _ _ _ _ _ _ _
   | exact LeO.none _
   | refine LeO.ite ?_ ?_
   | refine LeO.bind ?_ (fun _ => ?_)
def TkC (k : Nat) (w0 w : World) (g g2 g4 g9 : Nat) (bs : List Int) (n0 : Int) (a0_0 : ByteArray) (a0_1 : Int) (a0_2 : Bool) (r : Int × Int × Int × Nat × ByteArray × Int × Int × Nat × ByteArray × List Int × Int × Int × Int) (W : World) : Prop :=
 ∃ (kq : Nat) (at_ f x1 x2 : Int) (x3 : Nat) (x4 : ByteArray) (x5 x6 : Int) (x7 : Nat) (x8 : ByteArray), Aside0 (zone_Take.j0 kq n0 bs at_ f a0_0 a0_1 a0_2 0 x1 x2 x3 x4 x5 x6 x7 x8 = some r) ∧
  Aside0 (TkI w0 w g g2 g4 g9 bs at_ f #[.string a0_0, .int .i64 a0_1, .bool a0_2] #[.int .i64 0, .int .i64 0, .int .i64 0, .float .f64 0, .string ⟨#[]⟩, .int .i64 0, .int .i64 0, .float .f64 0, .string ⟨#[]⟩, .slice none 0 0] #[.int .i64 0, .int .i64 x1, .int .i64 x2, .float .f64 x3, .string x4, .int .i64 x5, .int .i64 x6, .float .f64 x7, .string x8, .slice none 0 0] (.slice none 0 0) [] W)
set_option maxHeartbeats 8000000 in
set_option maxRecDepth 100000 in
theorem zone_Take.calls (k : Nat) (a0_0 : ByteArray) (a0_1 : Int) (a0_2 : Bool) (g : Nat) (s1_0 : List Int) (s1_1 : Int) (s1_2 : Int) (r1 : Int) (r2 : Int) (r3 : Int) (r4 : Nat) (r5 : ByteArray) (r6 : Int) (r7 : Int) (r8 : Nat) (r9 : ByteArray) (r10 : List Int) (r11 : Int) (r12 : Int) (r13 : Int) (w0 w : World) (hI : IsS92 w0 w g s1_0 s1_1 s1_2) (hB : Below w0.heap.size w0 w) (h : zone_Take.f k a0_0 a0_1 a0_2 s1_0 s1_1 s1_2 = some (r1, r2, r3, r4, r5, r6, r7, r8, r9, r10, r11, r12, r13)) :
  Calls Try.prog 31 #[.agg #[.string a0_0, .int .i64 a0_1, .bool a0_2], .pointer (some ⟨g, 0, none⟩)] w fun e w' => ∃ v9_ : Value, e = .returned (.tuple #[.agg #[.int .i64 r1, .int .i64 r2, .int .i64 r3, .float .f64 r4, .string r5, .int .i64 r6, .int .i64 r7, .float .f64 r8, .string r9, v9_], .int .i64 r11]) ∧ Kd.R (Kd.int .u8) 5 w' w.heap.size (fun _ => True) v9_ r10 ∧ IsS92 w0 w' g s1_0 r12 r13 ∧ Below w0.heap.size w0 w' ∧ KeepBut w w' g none := by
 have hu23 := Try.underlying23
 have hu31 := Try.underlying31
 have HI := Aside0.mk hI
 have HB := Aside0.mk hB
 clear hI hB
 unfold zone_Take.f at h
 replace h := Option.bind_eq_some_iff.mp h
 obtain ⟨t, A1_, h⟩ := h
 (try dsimp only at h)
 have A1 := Aside0.mk A1_
 clear A1_
 cases t with
 | false =>
  rw [if_neg (by decide)] at h
  simp only [Option.some.injEq, Prod.mk.injEq] at h
  obtain ⟨rfl, rfl, rfl, rfl, rfl, rfl, rfl, rfl, rfl, rfl, rfl, rfl, rfl⟩ := h
  go_enter Try.func31, Try.ntmps31
  go_upto_region 1 with (first | ((with_reducible refine gate_dst (N := 2) rfl ?_); refine box_event ?hg (N := 2) ?hd (cs := #[.string a0_0, .int .i64 a0_1, .bool a0_2]) (t := 23) ?hr ?_; (case hd => rfl); (case hg => rfl); (case hr => first | (go_simp; done) | (go_simp; rfl)); intro g2 hg_ w1 hbox hb_; have HG_ := Aside0.mk hg_; have HX_ := Aside0.mk hbox; have HY_ := Aside0.mk hb_; clear hg_ hbox hb_; have HG2 := HG_; have HX2 := HX_; have HB2 := HY_; clear HX_ HY_ HG_) | ((with_reducible refine gate_dst (N := 4) rfl ?_); refine box_event ?hg (N := 4) ?hd (cs := #[.int .i64 0, .int .i64 0, .int .i64 0, .float .f64 0, .string ⟨#[]⟩, .int .i64 0, .int .i64 0, .float .f64 0, .string ⟨#[]⟩, .slice none 0 0]) (t := 31) ?hr ?_; (case hd => rfl); (case hg => rfl); (case hr => first | (go_simp; done) | (go_simp; rfl)); intro g4 hg_ w2 hbox hb_; have HG_ := Aside0.mk hg_; have HX_ := Aside0.mk hbox; have HY_ := Aside0.mk hb_; clear hg_ hbox hb_; have HT := Aside0.mk (tk_start HI.out HB.out HG2.out HX2.out HB2.out HG_.out HX_.out HY_.out); clear HG2 HX2 HB2; clear HX_ HY_ HG_))
  go_wp2_with (first | ((with_reducible refine gate_dst (N := 11) rfl ?_); refine ld_blk (d := (.struct _)) rfl 23 _ rfl (by rfl) (HT.out.b2) hu23 rfl (by kernel_rfl) ?_) | ((with_reducible refine gate_callee (f := 48) rfl ?_); (with_reducible refine gate_dst (N := 12) rfl ?_); refine goesQ 12 Try.func48 #[.agg #[.string a0_0, .int .i64 a0_1, .bool a0_2]] ?_; refine (zone_typed.calls a0_0 a0_1 a0_2 false _ A1.out).mono ?_; rintro e w3 ⟨rfl, hb_⟩; refine ⟨_, rfl, ?_⟩; have HT1 := Aside0.mk (HT.out.below hb_); clear HT; have HT := HT1; clear HT1; clear hb_) | ((with_reducible refine gate_store (p := 4) rfl ?_); refine st_blk rfl 31 _ _ rfl rfl #[.int .i64 0, .int .i64 0, .int .i64 0, .float .f64 0, .string ⟨#[]⟩, .int .i64 0, .int .i64 0, .float .f64 0, .string ⟨#[]⟩, .slice none 0 0] (by rfl) (by rfl) (HT.out.b4) (by rfl) (by kernel_rfl) (by simp [Value.oneCell']) ?_; intro w4 hx_ ho_; have HT1 := Aside0.mk (HT.out.set4 hx_ ho_); clear HT; have HT := HT1; clear HT1; clear hx_ ho_))
  refine bodyPost_ret (results_ct rfl _ _ g4 31 #[.int .i64 0, .int .i64 0, .int .i64 0, .float .f64 0, .string ⟨#[]⟩, .int .i64 0, .int .i64 0, .float .f64 0, .string ⟨#[]⟩, .slice none 0 0] (0, 0) _ rfl HT.out.b4 hu31 rfl (by kernel_rfl)) rfl ?_
  exact ⟨_, rfl, Kd.R_nil _ _ _ _ _, HT.out.hi, HT.out.hb, HT.out.hk⟩
 | true =>
  rw [if_pos rfl] at h
  replace h := Option.bind_eq_some_iff.mp h
  obtain ⟨⟨v1, p1, f1⟩, A2_, h⟩ := h
  (try dsimp only at h)
  have A2 := Aside0.mk A2_
  clear A2_
  replace h := Option.bind_eq_some_iff.mp h
  obtain ⟨⟨v2, p2, f2⟩, A3_, h⟩ := h
  (try dsimp only at h)
  have A3 := Aside0.mk A3_
  clear A3_
  replace h := Option.bind_eq_some_iff.mp h
  obtain ⟨⟨v3, p3, f3⟩, A4_, h⟩ := h
  (try dsimp only at h)
  have A4 := Aside0.mk A4_
  clear A4_
  by_cases c3 : v3 = 0
  rotate_left
  ·rw [if_neg c3] at h
   simp only [Option.some.injEq, Prod.mk.injEq] at h
   obtain ⟨rfl, rfl, rfl, rfl, rfl, rfl, rfl, rfl, rfl, rfl, rfl, rfl, rfl⟩ := h
   have c3b : (v3 != 0) = true := bne_iff_ne.mpr c3
   have c3c : (v3 == 0) = false := beq_eq_false_iff_ne.mpr c3
   clear c3
   go_enter Try.func31, Try.ntmps31
   go_upto_region 1 with (first | ((with_reducible refine gate_dst (N := 2) rfl ?_); refine box_event ?hg (N := 2) ?hd (cs := #[.string a0_0, .int .i64 a0_1, .bool a0_2]) (t := 23) ?hr ?_; (case hd => rfl); (case hg => rfl); (case hr => first | (go_simp; done) | (go_simp; rfl)); intro g2 hg_ w1 hbox hb_; have HG_ := Aside0.mk hg_; have HX_ := Aside0.mk hbox; have HY_ := Aside0.mk hb_; clear hg_ hbox hb_; have HG2 := HG_; have HX2 := HX_; have HB2 := HY_; clear HX_ HY_ HG_) | ((with_reducible refine gate_dst (N := 4) rfl ?_); refine box_event ?hg (N := 4) ?hd (cs := #[.int .i64 0, .int .i64 0, .int .i64 0, .float .f64 0, .string ⟨#[]⟩, .int .i64 0, .int .i64 0, .float .f64 0, .string ⟨#[]⟩, .slice none 0 0]) (t := 31) ?hr ?_; (case hd => rfl); (case hg => rfl); (case hr => first | (go_simp; done) | (go_simp; rfl)); intro g4 hg_ w2 hbox hb_; have HG_ := Aside0.mk hg_; have HX_ := Aside0.mk hbox; have HY_ := Aside0.mk hb_; clear hg_ hbox hb_; have HT := Aside0.mk (tk_start HI.out HB.out HG2.out HX2.out HB2.out HG_.out HX_.out HY_.out); clear HG2 HX2 HB2; clear HX_ HY_ HG_))
   go_wp2_with (first | ((with_reducible refine gate_dst (N := 11) rfl ?_); refine ld_blk (d := (.struct _)) rfl 23 _ rfl (by rfl) (HT.out.b2) hu23 rfl (by kernel_rfl) ?_) | ((with_reducible refine gate_callee (f := 48) rfl ?_); (with_reducible refine gate_dst (N := 12) rfl ?_); refine goesQ 12 Try.func48 #[.agg #[.string a0_0, .int .i64 a0_1, .bool a0_2]] ?_; refine (zone_typed.calls a0_0 a0_1 a0_2 true _ A1.out).mono ?_; rintro e w3 ⟨rfl, hb_⟩; refine ⟨_, rfl, ?_⟩; have HT1 := Aside0.mk (HT.out.below hb_); clear HT; have HT := HT1; clear HT1; clear hb_) | ((with_reducible refine gate_callee (f := 78) rfl ?_); (with_reducible refine gate_dst (N := 19) rfl ?_); refine goesQ 19 Try.func78 #[.pointer (some ⟨g, 0, none⟩)] ?_; refine (cursor_Reader_Uvarint.calls g s1_0 s1_1 s1_2 v1 p1 f1 w0 _ HT.out.hi HT.out.hb A2.out).mono ?_; rintro e w4 ⟨rfl, hI_, hB_, hK_⟩; refine ⟨_, rfl, ?_⟩; have HT1 := Aside0.mk (HT.out.read hI_ hB_ hK_); clear HT; have HT := HT1; clear HT1; clear hI_ hB_ hK_) | ((with_reducible refine gate_callee (f := 79) rfl ?_); (with_reducible refine gate_dst (N := 21) rfl ?_); refine goesQ 21 Try.func79 #[.pointer (some ⟨g, 0, none⟩)] ?_; refine (cursor_Take_uint8.calls g s1_0 p1 f1 v2 p2 f2 w0 _ HT.out.hi HT.out.hb A3.out).mono ?_; rintro e w5 ⟨rfl, hI_, hB_, hK_⟩; refine ⟨_, rfl, ?_⟩; have HT1 := Aside0.mk (HT.out.read hI_ hB_ hK_); clear HT; have HT := HT1; clear HT1; clear hI_ hB_ hK_) | ((with_reducible refine gate_callee (f := 34) rfl ?_); (with_reducible refine gate_dst (N := 23) rfl ?_); refine goesQ 23 Try.func34 #[.pointer (some ⟨g, 0, none⟩)] ?_; refine (cursor_Reader_Fault.calls g s1_0 p2 f2 v3 p3 f3 w0 _ HT.out.hi HT.out.hb A4.out).mono ?_; rintro e w6 ⟨rfl, hI_, hB_, hK_⟩; refine ⟨_, rfl, ?_⟩; have HT1 := Aside0.mk (HT.out.read hI_ hB_ hK_); clear HT; have HT := HT1; clear HT1; clear hI_ hB_ hK_) | ((with_reducible refine gate_store (p := 4) rfl ?_); refine st_blk rfl 31 _ _ rfl rfl #[.int .i64 0, .int .i64 0, .int .i64 0, .float .f64 0, .string ⟨#[]⟩, .int .i64 0, .int .i64 0, .float .f64 0, .string ⟨#[]⟩, .slice none 0 0] (by rfl) (by rfl) (HT.out.b4) (by rfl) (by kernel_rfl) (by simp [Value.oneCell']) ?_; intro w7 hx_ ho_; have HT1 := Aside0.mk (HT.out.set4 hx_ ho_); clear HT; have HT := HT1; clear HT1; clear hx_ ho_))
   refine bodyPost_ret (results_ct rfl _ _ g4 31 #[.int .i64 0, .int .i64 0, .int .i64 0, .float .f64 0, .string ⟨#[]⟩, .int .i64 0, .int .i64 0, .float .f64 0, .string ⟨#[]⟩, .slice none 0 0] (0, 0) _ rfl HT.out.b4 hu31 rfl (by kernel_rfl)) rfl ?_
   exact ⟨_, rfl, Kd.R_nil _ _ _ _ _, HT.out.hi, HT.out.hb, HT.out.hk⟩
  ·subst c3
   rw [if_pos rfl] at h
   have H := Aside0.mk h
   clear h
   go_enter Try.func31, Try.ntmps31
   go_upto_region 1 with (first | ((with_reducible refine gate_dst (N := 2) rfl ?_); refine box_event ?hg (N := 2) ?hd (cs := #[.string a0_0, .int .i64 a0_1, .bool a0_2]) (t := 23) ?hr ?_; (case hd => rfl); (case hg => rfl); (case hr => first | (go_simp; done) | (go_simp; rfl)); intro g2 hg_ w1 hbox hb_; have HG_ := Aside0.mk hg_; have HX_ := Aside0.mk hbox; have HY_ := Aside0.mk hb_; clear hg_ hbox hb_; have HG2 := HG_; have HX2 := HX_; have HB2 := HY_; clear HX_ HY_ HG_) | ((with_reducible refine gate_dst (N := 4) rfl ?_); refine box_event ?hg (N := 4) ?hd (cs := #[.int .i64 0, .int .i64 0, .int .i64 0, .float .f64 0, .string ⟨#[]⟩, .int .i64 0, .int .i64 0, .float .f64 0, .string ⟨#[]⟩, .slice none 0 0]) (t := 31) ?hr ?_; (case hd => rfl); (case hg => rfl); (case hr => first | (go_simp; done) | (go_simp; rfl)); intro g4 hg_ w2 hbox hb_; have HG_ := Aside0.mk hg_; have HX_ := Aside0.mk hbox; have HY_ := Aside0.mk hb_; clear hg_ hbox hb_; have HT := Aside0.mk (tk_start HI.out HB.out HG2.out HX2.out HB2.out HG_.out HX_.out HY_.out); clear HG2 HX2 HB2; clear HX_ HY_ HG_))
   go_upto_block 0 with (first | ((with_reducible refine gate_dst (N := 11) rfl ?_); refine ld_blk (d := (.struct _)) rfl 23 _ rfl (by rfl) (HT.out.b2) hu23 rfl (by kernel_rfl) ?_) | ((with_reducible refine gate_callee (f := 48) rfl ?_); (with_reducible refine gate_dst (N := 12) rfl ?_); refine goesQ 12 Try.func48 #[.agg #[.string a0_0, .int .i64 a0_1, .bool a0_2]] ?_; refine (zone_typed.calls a0_0 a0_1 a0_2 true _ A1.out).mono ?_; rintro e w3 ⟨rfl, hb_⟩; refine ⟨_, rfl, ?_⟩; have HT1 := Aside0.mk (HT.out.below hb_); clear HT; have HT := HT1; clear HT1; clear hb_) | ((with_reducible refine gate_callee (f := 78) rfl ?_); (with_reducible refine gate_dst (N := 19) rfl ?_); refine goesQ 19 Try.func78 #[.pointer (some ⟨g, 0, none⟩)] ?_; refine (cursor_Reader_Uvarint.calls g s1_0 s1_1 s1_2 v1 p1 f1 w0 _ HT.out.hi HT.out.hb A2.out).mono ?_; rintro e w4 ⟨rfl, hI_, hB_, hK_⟩; refine ⟨_, rfl, ?_⟩; have HT1 := Aside0.mk (HT.out.read hI_ hB_ hK_); clear HT; have HT := HT1; clear HT1; clear hI_ hB_ hK_) | ((with_reducible refine gate_callee (f := 79) rfl ?_); (with_reducible refine gate_dst (N := 21) rfl ?_); refine goesQ 21 Try.func79 #[.pointer (some ⟨g, 0, none⟩)] ?_; refine (cursor_Take_uint8.calls g s1_0 p1 f1 v2 p2 f2 w0 _ HT.out.hi HT.out.hb A3.out).mono ?_; rintro e w5 ⟨rfl, hI_, hB_, hK_⟩; refine ⟨_, rfl, ?_⟩; have HT1 := Aside0.mk (HT.out.read hI_ hB_ hK_); clear HT; have HT := HT1; clear HT1; clear hI_ hB_ hK_) | ((with_reducible refine gate_callee (f := 34) rfl ?_); (with_reducible refine gate_dst (N := 23) rfl ?_); refine goesQ 23 Try.func34 #[.pointer (some ⟨g, 0, none⟩)] ?_; refine (cursor_Reader_Fault.calls g s1_0 p2 f2 0 p3 f3 w0 _ HT.out.hi HT.out.hb A4.out).mono ?_; rintro e w6 ⟨rfl, hI_, hB_, hK_⟩; refine ⟨_, rfl, ?_⟩; have HT1 := Aside0.mk (HT.out.read hI_ hB_ hK_); clear HT; have HT := HT1; clear HT1; clear hI_ hB_ hK_) | ((with_reducible refine gate_dst (N := 9) rfl ?_); refine box_event ?hg (N := 9) ?hd (cs := #[.int .i64 0, .int .i64 0, .int .i64 0, .float .f64 0, .string ⟨#[]⟩, .int .i64 0, .int .i64 0, .float .f64 0, .string ⟨#[]⟩, .slice none 0 0]) (t := 31) ?hr ?_; (case hd => rfl); (case hg => rfl); (case hr => first | (go_simp; done) | (go_simp; rfl)); intro g9 hg_ w7 hbox hb_; have HG_ := Aside0.mk hg_; have HX_ := Aside0.mk hbox; have HY_ := Aside0.mk hb_; clear hg_ hbox hb_; have HT1 := Aside0.mk (TkI.start HT.out HG_.out HX_.out HY_.out); clear HT; have HT := HT1; clear HT1; clear HX_ HY_ HG_))
   go_cut [] (fun wc => TkC k w0 w g g2 g4 g9 s1_0 v1 a0_0 a0_1 a0_2 (r1, r2, r3, r4, r5, r6, r7, r8, r9, r10, r11, r12, r13) wc)
   case first =>
    have h := H.out
    clear H
    by_cases e0 : v2 = 0
    ·rw [if_pos e0] at h
     have e0b : (v2 == 0) = true := beq_iff_eq.mpr e0
     have HJ := Aside0.mk h
     clear h e0
     go_wp2_with (fail)
     go_meet
     exact ⟨_, _, _, _, _, _, _, _, _, _, _, HJ, HT⟩
    rw [if_neg e0] at h
    have e0b : (v2 == 0) = false := beq_eq_false_iff_ne.mpr e0
    clear e0
    by_cases e1 : v2 = 1
    ·rw [if_pos e1] at h
     have e1b : (v2 == 1) = true := beq_iff_eq.mpr e1
     clear e1
     replace h := Option.bind_eq_some_iff.mp h
     obtain ⟨⟨x1, x2, x3, x4, p4, f4⟩, A5_, h⟩ := h
     (try dsimp only at h)
     have A5 := Aside0.mk A5_
     clear A5_
     replace h := Option.bind_eq_some_iff.mp h
     obtain ⟨⟨x5, x6, x7, x8, p5, f5⟩, A6_, h⟩ := h
     (try dsimp only at h)
     have A6 := Aside0.mk A6_
     clear A6_
     have HJ := Aside0.mk h
     clear h
     go_wp2_with (first | ((with_reducible refine gate_dst (N := 34) rfl ?_); refine ld_blk (d := (.struct _)) rfl 23 _ rfl (by rfl) (HT.out.a.b2) hu23 rfl (by kernel_rfl) ?_) | ((with_reducible refine gate_callee (f := 80) rfl ?_); (with_reducible refine gate_dst (N := 36) rfl ?_); refine goesQ 36 Try.func80 #[.agg #[.string a0_0, .int .i64 a0_1, .bool a0_2], .pointer (some ⟨g, 0, none⟩)] ?_; refine (zone_take.calls a0_0 a0_1 a0_2 g s1_0 p3 f3 x1 x2 x3 x4 p4 f4 w0 _ HT.out.a.hi HT.out.a.hb A5.out).mono ?_; rintro e w8 ⟨rfl, hI_, hB_, hK_⟩; refine ⟨_, rfl, ?_⟩; have HT1 := Aside0.mk (HT.out.read hI_ hB_ hK_); clear HT; have HT := HT1; clear HT1; clear hI_ hB_ hK_) | ((with_reducible refine gate_store (p := 37) rfl ?_); refine st_rng rfl 28 _ _ rfl rfl #[.int .i64 x1, .int .i64 x2, .float .f64 x3, .string x4] #[.int .i64 0, .int .i64 x1, .int .i64 x2, .float .f64 x3, .string x4, .int .i64 0, .int .i64 0, .float .f64 0, .string ⟨#[]⟩, .slice none 0 0] (by rfl) (by rfl) HT.out.b9 (by simp) (by kernel_rfl) (by simp [Value.oneCell']) (by rfl) ?_; intro w9 hx_ ho_; have HT1 := Aside0.mk (HT.out.set9 hx_ ho_); clear HT; have HT := HT1; clear HT1; clear hx_ ho_) | ((with_reducible refine gate_dst (N := 38) rfl ?_); refine ld_blk (d := (.struct _)) rfl 23 _ rfl (by rfl) (HT.out.a.b2) hu23 rfl (by kernel_rfl) ?_) | ((with_reducible refine gate_callee (f := 80) rfl ?_); (with_reducible refine gate_dst (N := 40) rfl ?_); refine goesQ 40 Try.func80 #[.agg #[.string a0_0, .int .i64 a0_1, .bool a0_2], .pointer (some ⟨g, 0, none⟩)] ?_; refine (zone_take.calls a0_0 a0_1 a0_2 g s1_0 p4 f4 x5 x6 x7 x8 p5 f5 w0 _ HT.out.a.hi HT.out.a.hb A6.out).mono ?_; rintro e w10 ⟨rfl, hI_, hB_, hK_⟩; refine ⟨_, rfl, ?_⟩; have HT1 := Aside0.mk (HT.out.read hI_ hB_ hK_); clear HT; have HT := HT1; clear HT1; clear hI_ hB_ hK_) | ((with_reducible refine gate_store (p := 41) rfl ?_); refine st_rng rfl 28 _ _ rfl rfl #[.int .i64 x5, .int .i64 x6, .float .f64 x7, .string x8] #[.int .i64 0, .int .i64 x1, .int .i64 x2, .float .f64 x3, .string x4, .int .i64 x5, .int .i64 x6, .float .f64 x7, .string x8, .slice none 0 0] (by rfl) (by rfl) HT.out.b9 (by simp) (by kernel_rfl) (by simp [Value.oneCell']) (by rfl) ?_; intro w11 hx_ ho_; have HT1 := Aside0.mk (HT.out.set9 hx_ ho_); clear HT; have HT := HT1; clear HT1; clear hx_ ho_))
     go_meet
     exact ⟨_, _, _, _, _, _, _, _, _, _, _, HJ, HT⟩
    ·rw [if_neg e1] at h
     have e1b : (v2 == 1) = false := beq_eq_false_iff_ne.mpr e1
     clear e1
     simp only [Option.some.injEq, Prod.mk.injEq] at h
     obtain ⟨rfl, rfl, rfl, rfl, rfl, rfl, rfl, rfl, rfl, rfl, rfl, rfl, rfl⟩ := h
     go_wp2_with ((with_reducible refine gate_store (p := 4) rfl ?_); refine st_blk rfl 31 _ _ rfl rfl #[.int .i64 0, .int .i64 0, .int .i64 0, .float .f64 0, .string ⟨#[]⟩, .int .i64 0, .int .i64 0, .float .f64 0, .string ⟨#[]⟩, .slice none 0 0] (by rfl) (by rfl) (HT.out.a.b4) (by rfl) (by kernel_rfl) (by simp [Value.oneCell']) ?_; intro w8 hx_ ho_; have HT1 := Aside0.mk (HT.out.set4 hx_ ho_); clear HT; have HT := HT1; clear HT1; clear hx_ ho_)
     refine bodyPost_ret (results_ct rfl _ _ g4 31 #[.int .i64 0, .int .i64 0, .int .i64 0, .float .f64 0, .string ⟨#[]⟩, .int .i64 0, .int .i64 0, .float .f64 0, .string ⟨#[]⟩, .slice none 0 0] (0, 0) _ rfl HT.out.a.b4 hu31 rfl (by kernel_rfl)) rfl ?_
     exact ⟨_, rfl, Kd.R_nil _ _ _ _ _, HT.out.a.hi, HT.out.a.hb, HT.out.a.hk⟩
   case rest =>
    obtain ⟨kq, p6, f6, x1, x2, x3, x4, x5, x6, x7, x8, HJ, HT1⟩ := hcut
    clear HT H
    have HT := HT1
    clear HT1
    obtain ⟨h⟩ := HJ
    cases kq with
    | zero => cases h
    | succ kq =>
    simp only [zone_Take.j0] at h
    replace h := Option.bind_eq_some_iff.mp h
    obtain ⟨⟨xb, p7, f7⟩, A7_, h⟩ := h
    (try dsimp only at h)
    have A7 := Aside0.mk A7_
    clear A7_
    replace h := Option.bind_eq_some_iff.mp h
    obtain ⟨⟨v8, p8, f8⟩, A8_, h⟩ := h
    (try dsimp only at h)
    have A8 := Aside0.mk A8_
    clear A8_
    by_cases c8 : v8 = 0
    rotate_left
    ·rw [if_neg c8] at h
     simp only [Option.some.injEq, Prod.mk.injEq] at h
     obtain ⟨rfl, rfl, rfl, rfl, rfl, rfl, rfl, rfl, rfl, rfl, rfl, rfl, rfl⟩ := h
     have c8b : (v8 != 0) = true := bne_iff_ne.mpr c8
     clear c8
     go_wp2_with (first | ((with_reducible refine gate_callee (f := 81) rfl ?_); (with_reducible refine gate_dst (N := 43) rfl ?_); refine goesQ 43 Try.func81 #[.pointer (some ⟨g, 0, none⟩), .int .i64 65536] ?_; refine (cursor_Reader_Block.calls g s1_0 p6 f6 65536 xb p7 f7 w0 _ HT.out.a.hi HT.out.a.hb A7.out).mono ?_; rintro e w12 ⟨vb, rfl, hR_, hI_, hB_, hK_⟩; obtain ⟨Ab, cb, eb⟩ := Kd.R_slice hR_; subst eb; refine ⟨_, rfl, ?_⟩; have HT1 := Aside0.mk (HT.out.rowed hR_ hI_ hB_ hK_); clear HT; have HT := HT1; clear HT1; clear hR_ hI_ hB_ hK_) | ((with_reducible refine gate_store (p := 44) rfl ?_); refine st_fld rfl 29 _ _ rfl rfl (.slice Ab xb.length cb) (by rfl) (by rfl) HT.out.b9 (by simp) (by kernel_rfl) (by simp [Value.oneCell']) #[.int .i64 0, .int .i64 x1, .int .i64 x2, .float .f64 x3, .string x4, .int .i64 x5, .int .i64 x6, .float .f64 x7, .string x8, .slice Ab xb.length cb] (by rfl) (by have z_ := (blk_cell HT.out.b9 9).trans rfl; have f_ := blk_frozen HT.out.b9 9; go_simp) ?_; intro w13 hx_ ho_; have HT1 := Aside0.mk (HT.out.set9 hx_ ho_); clear HT; have HT := HT1; clear HT1; clear hx_ ho_) | ((with_reducible refine gate_callee (f := 34) rfl ?_); (with_reducible refine gate_dst (N := 46) rfl ?_); refine goesQ 46 Try.func34 #[.pointer (some ⟨g, 0, none⟩)] ?_; refine (cursor_Reader_Fault.calls g s1_0 p7 f7 v8 p8 f8 w0 _ HT.out.a.hi HT.out.a.hb A8.out).mono ?_; rintro e w14 ⟨rfl, hI_, hB_, hK_⟩; refine ⟨_, rfl, ?_⟩; have HT1 := Aside0.mk (HT.out.read hI_ hB_ hK_); clear HT; have HT := HT1; clear HT1; clear hI_ hB_ hK_) | ((with_reducible refine gate_store (p := 4) rfl ?_); refine st_blk rfl 31 _ _ rfl rfl #[.int .i64 0, .int .i64 0, .int .i64 0, .float .f64 0, .string ⟨#[]⟩, .int .i64 0, .int .i64 0, .float .f64 0, .string ⟨#[]⟩, .slice none 0 0] (by rfl) (by rfl) (HT.out.a.b4) (by rfl) (by kernel_rfl) (by simp [Value.oneCell']) ?_; intro w15 hx_ ho_; have HT1 := Aside0.mk (HT.out.set4 hx_ ho_); clear HT; have HT := HT1; clear HT1; clear hx_ ho_))
     refine bodyPost_ret (results_ct rfl _ _ g4 31 #[.int .i64 0, .int .i64 0, .int .i64 0, .float .f64 0, .string ⟨#[]⟩, .int .i64 0, .int .i64 0, .float .f64 0, .string ⟨#[]⟩, .slice none 0 0] (0, 0) _ rfl HT.out.a.b4 hu31 rfl (by kernel_rfl)) rfl ?_
     exact ⟨_, rfl, Kd.R_nil _ _ _ _ _, HT.out.a.hi, HT.out.a.hb, HT.out.a.hk⟩
    ·subst c8
     rw [if_pos rfl] at h
     replace h := Option.bind_eq_some_iff.mp h
     obtain ⟨t9, A9_, h⟩ := h
     (try dsimp only at h)
     have A9 := Aside0.mk A9_
     clear A9_
     obtain ⟨nn, hnn⟩ : ∃ n_ : Int, mn v1 16777217 = n_ := ⟨_, rfl⟩
     have A9x := A9.out
     clear A9
     rw [hnn] at h A9x
     have A9 := Aside0.mk A9x
     clear A9x
     have hnw : (if (16777217 : Int) < v1 then (16777217 : Int) else v1) = nn := hnn
     clear hnn
     cases t9 with
     | false =>
      rw [if_neg (by decide)] at h
      simp only [Option.some.injEq, Prod.mk.injEq] at h
      obtain ⟨rfl, rfl, rfl, rfl, rfl, rfl, rfl, rfl, rfl, rfl, rfl, rfl, rfl⟩ := h
      go_wp2_with (first | ((with_reducible refine gate_callee (f := 81) rfl ?_); (with_reducible refine gate_dst (N := 43) rfl ?_); refine goesQ 43 Try.func81 #[.pointer (some ⟨g, 0, none⟩), .int .i64 65536] ?_; refine (cursor_Reader_Block.calls g s1_0 p6 f6 65536 xb p7 f7 w0 _ HT.out.a.hi HT.out.a.hb A7.out).mono ?_; rintro e w12 ⟨vb, rfl, hR_, hI_, hB_, hK_⟩; obtain ⟨Ab, cb, eb⟩ := Kd.R_slice hR_; subst eb; refine ⟨_, rfl, ?_⟩; have HT1 := Aside0.mk (HT.out.rowed hR_ hI_ hB_ hK_); clear HT; have HT := HT1; clear HT1; clear hR_ hI_ hB_ hK_) | ((with_reducible refine gate_store (p := 44) rfl ?_); refine st_fld rfl 29 _ _ rfl rfl (.slice Ab xb.length cb) (by rfl) (by rfl) HT.out.b9 (by simp) (by kernel_rfl) (by simp [Value.oneCell']) #[.int .i64 0, .int .i64 x1, .int .i64 x2, .float .f64 x3, .string x4, .int .i64 x5, .int .i64 x6, .float .f64 x7, .string x8, .slice Ab xb.length cb] (by rfl) (by have z_ := (blk_cell HT.out.b9 9).trans rfl; have f_ := blk_frozen HT.out.b9 9; go_simp) ?_; intro w13 hx_ ho_; have HT1 := Aside0.mk (HT.out.set9 hx_ ho_); clear HT; have HT := HT1; clear HT1; clear hx_ ho_) | ((with_reducible refine gate_callee (f := 34) rfl ?_); (with_reducible refine gate_dst (N := 46) rfl ?_); refine goesQ 46 Try.func34 #[.pointer (some ⟨g, 0, none⟩)] ?_; refine (cursor_Reader_Fault.calls g s1_0 p7 f7 0 p8 f8 w0 _ HT.out.a.hi HT.out.a.hb A8.out).mono ?_; rintro e w14 ⟨rfl, hI_, hB_, hK_⟩; refine ⟨_, rfl, ?_⟩; have HT1 := Aside0.mk (HT.out.read hI_ hB_ hK_); clear HT; have HT := HT1; clear HT1; clear hI_ hB_ hK_) | ((with_reducible refine gate_store (p := 54) rfl ?_); refine st_fld rfl 3 _ _ rfl rfl (.int .i64 (wrap64 nn)) (by rfl) (by rfl) HT.out.b9 (by simp) (by kernel_rfl) (by simp [Value.oneCell']) #[.int .i64 (wrap64 nn), .int .i64 x1, .int .i64 x2, .float .f64 x3, .string x4, .int .i64 x5, .int .i64 x6, .float .f64 x7, .string x8, .slice Ab xb.length cb] (by rfl) (by have z_ := (blk_cell HT.out.b9 0).trans rfl; have f_ := blk_frozen HT.out.b9 0; go_simp) ?_; intro w15 hx_ ho_; have HT1 := Aside0.mk (HT.out.set9 hx_ ho_); clear HT; have HT := HT1; clear HT1; clear hx_ ho_) | ((with_reducible refine gate_dst (N := 55) rfl ?_); refine ld_blk (d := (.struct _)) rfl 23 _ rfl (by rfl) (HT.out.a.b2) hu23 rfl (by kernel_rfl) ?_) | ((with_reducible refine gate_dst (N := 56) rfl ?_); refine ld_blk (d := (.struct _)) rfl 31 _ rfl (by rfl) (HT.out.b9) hu31 rfl (by kernel_rfl) ?_) | ((with_reducible refine gate_callee (f := 59) rfl ?_); (with_reducible refine gate_dst (N := 57) rfl ?_); refine goesQ 57 Try.func59 #[.agg #[.string a0_0, .int .i64 a0_1, .bool a0_2], .agg #[.int .i64 (wrap64 nn), .int .i64 x1, .int .i64 x2, .float .f64 x3, .string x4, .int .i64 x5, .int .i64 x6, .float .f64 x7, .string x8, .slice Ab xb.length cb]] ?_; refine (zone_may.calls kq a0_0 a0_1 a0_2 (wrap64 nn) x1 x2 x3 x4 x5 x6 x7 x8 Ab cb xb false _ (Kd.R_reads' HT.out.row).2.2 (Kd.R_reads' HT.out.row).2.1 A9.out).mono ?_; rintro e w16 ⟨rfl, hb_⟩; refine ⟨_, rfl, ?_⟩; have HT1 := Aside0.mk (HT.out.below hb_); clear HT; have HT := HT1; clear HT1; clear hb_) | ((with_reducible refine gate_store (p := 4) rfl ?_); refine st_blk rfl 31 _ _ rfl rfl #[.int .i64 0, .int .i64 0, .int .i64 0, .float .f64 0, .string ⟨#[]⟩, .int .i64 0, .int .i64 0, .float .f64 0, .string ⟨#[]⟩, .slice none 0 0] (by rfl) (by rfl) (HT.out.a.b4) (by rfl) (by kernel_rfl) (by simp [Value.oneCell']) ?_; intro w17 hx_ ho_; have HT1 := Aside0.mk (HT.out.set4 hx_ ho_); clear HT; have HT := HT1; clear HT1; clear hx_ ho_))
      refine bodyPost_ret (results_ct rfl _ _ g4 31 #[.int .i64 0, .int .i64 0, .int .i64 0, .float .f64 0, .string ⟨#[]⟩, .int .i64 0, .int .i64 0, .float .f64 0, .string ⟨#[]⟩, .slice none 0 0] (0, 0) _ rfl HT.out.a.b4 hu31 rfl (by kernel_rfl)) rfl ?_
      exact ⟨_, rfl, Kd.R_nil _ _ _ _ _, HT.out.a.hi, HT.out.a.hb, HT.out.a.hk⟩
     | true =>
      rw [if_pos rfl] at h
      simp only [Option.some.injEq, Prod.mk.injEq] at h
      obtain ⟨rfl, rfl, rfl, rfl, rfl, rfl, rfl, rfl, rfl, rfl, rfl, rfl, rfl⟩ := h
      go_wp2_with (first | ((with_reducible refine gate_callee (f := 81) rfl ?_); (with_reducible refine gate_dst (N := 43) rfl ?_); refine goesQ 43 Try.func81 #[.pointer (some ⟨g, 0, none⟩), .int .i64 65536] ?_; refine (cursor_Reader_Block.calls g s1_0 p6 f6 65536 xb p7 f7 w0 _ HT.out.a.hi HT.out.a.hb A7.out).mono ?_; rintro e w12 ⟨vb, rfl, hR_, hI_, hB_, hK_⟩; obtain ⟨Ab, cb, eb⟩ := Kd.R_slice hR_; subst eb; refine ⟨_, rfl, ?_⟩; have HT1 := Aside0.mk (HT.out.rowed hR_ hI_ hB_ hK_); clear HT; have HT := HT1; clear HT1; clear hR_ hI_ hB_ hK_) | ((with_reducible refine gate_store (p := 44) rfl ?_); refine st_fld rfl 29 _ _ rfl rfl (.slice Ab xb.length cb) (by rfl) (by rfl) HT.out.b9 (by simp) (by kernel_rfl) (by simp [Value.oneCell']) #[.int .i64 0, .int .i64 x1, .int .i64 x2, .float .f64 x3, .string x4, .int .i64 x5, .int .i64 x6, .float .f64 x7, .string x8, .slice Ab xb.length cb] (by rfl) (by have z_ := (blk_cell HT.out.b9 9).trans rfl; have f_ := blk_frozen HT.out.b9 9; go_simp) ?_; intro w13 hx_ ho_; have HT1 := Aside0.mk (HT.out.set9 hx_ ho_); clear HT; have HT := HT1; clear HT1; clear hx_ ho_) | ((with_reducible refine gate_callee (f := 34) rfl ?_); (with_reducible refine gate_dst (N := 46) rfl ?_); refine goesQ 46 Try.func34 #[.pointer (some ⟨g, 0, none⟩)] ?_; refine (cursor_Reader_Fault.calls g s1_0 p7 f7 0 p8 f8 w0 _ HT.out.a.hi HT.out.a.hb A8.out).mono ?_; rintro e w14 ⟨rfl, hI_, hB_, hK_⟩; refine ⟨_, rfl, ?_⟩; have HT1 := Aside0.mk (HT.out.read hI_ hB_ hK_); clear HT; have HT := HT1; clear HT1; clear hI_ hB_ hK_) | ((with_reducible refine gate_store (p := 54) rfl ?_); refine st_fld rfl 3 _ _ rfl rfl (.int .i64 (wrap64 nn)) (by rfl) (by rfl) HT.out.b9 (by simp) (by kernel_rfl) (by simp [Value.oneCell']) #[.int .i64 (wrap64 nn), .int .i64 x1, .int .i64 x2, .float .f64 x3, .string x4, .int .i64 x5, .int .i64 x6, .float .f64 x7, .string x8, .slice Ab xb.length cb] (by rfl) (by have z_ := (blk_cell HT.out.b9 0).trans rfl; have f_ := blk_frozen HT.out.b9 0; go_simp) ?_; intro w15 hx_ ho_; have HT1 := Aside0.mk (HT.out.set9 hx_ ho_); clear HT; have HT := HT1; clear HT1; clear hx_ ho_) | ((with_reducible refine gate_dst (N := 55) rfl ?_); refine ld_blk (d := (.struct _)) rfl 23 _ rfl (by rfl) (HT.out.a.b2) hu23 rfl (by kernel_rfl) ?_) | ((with_reducible refine gate_dst (N := 56) rfl ?_); refine ld_blk (d := (.struct _)) rfl 31 _ rfl (by rfl) (HT.out.b9) hu31 rfl (by kernel_rfl) ?_) | ((with_reducible refine gate_callee (f := 59) rfl ?_); (with_reducible refine gate_dst (N := 57) rfl ?_); refine goesQ 57 Try.func59 #[.agg #[.string a0_0, .int .i64 a0_1, .bool a0_2], .agg #[.int .i64 (wrap64 nn), .int .i64 x1, .int .i64 x2, .float .f64 x3, .string x4, .int .i64 x5, .int .i64 x6, .float .f64 x7, .string x8, .slice Ab xb.length cb]] ?_; refine (zone_may.calls kq a0_0 a0_1 a0_2 (wrap64 nn) x1 x2 x3 x4 x5 x6 x7 x8 Ab cb xb true _ (Kd.R_reads' HT.out.row).2.2 (Kd.R_reads' HT.out.row).2.1 A9.out).mono ?_; rintro e w16 ⟨rfl, hb_⟩; refine ⟨_, rfl, ?_⟩; have HT1 := Aside0.mk (HT.out.below hb_); clear HT; have HT := HT1; clear HT1; clear hb_) | ((with_reducible refine gate_dst (N := 60) rfl ?_); refine ld_blk (d := (.struct _)) rfl 31 _ rfl (by rfl) (HT.out.b9) hu31 rfl (by kernel_rfl) ?_) | ((with_reducible refine gate_store (p := 4) rfl ?_); refine st_blk rfl 31 _ _ rfl rfl #[.int .i64 (wrap64 nn), .int .i64 x1, .int .i64 x2, .float .f64 x3, .string x4, .int .i64 x5, .int .i64 x6, .float .f64 x7, .string x8, .slice Ab xb.length cb] (by rfl) (by rfl) (HT.out.a.b4) (by rfl) (by kernel_rfl) (by simp [Value.oneCell']) ?_; intro w17 hx_ ho_; have HT1 := Aside0.mk (HT.out.set4 hx_ ho_); clear HT; have HT := HT1; clear HT1; clear hx_ ho_))
      refine bodyPost_ret (results_ct rfl _ _ g4 31 #[.int .i64 (wrap64 nn), .int .i64 x1, .int .i64 x2, .float .f64 x3, .string x4, .int .i64 x5, .int .i64 x6, .float .f64 x7, .string x8, .slice Ab xb.length cb] (0, 0) _ rfl HT.out.a.b4 hu31 rfl (by kernel_rfl)) rfl ?_
      exact ⟨_, rfl, Kd.R_mono HT.out.row (fun _ _ => trivial), HT.out.a.hi, HT.out.a.hb, HT.out.a.hk⟩
end Go.Proofs.Ythiidgmemoineaa.Pa
