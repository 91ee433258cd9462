/- The texts of ZoneOfs, merged: part 31. -/
import Derived.Test.YthiidgmemoineaaQZoneOfs16
import Derived.Test.YthiidgmemoineaaQZoneOfs30
import Derived.Test.YthiidgmemoineaaQZoneOfs11
import Derived.Test.YthiidgmemoineaaQZoneOfs10
import Derived.Test.YthiidgmemoineaaQZoneOfs6
/- ZoneOfs: every Of; what is handed in stays, and again, when the same memory holds others. No conditions. -/
namespace Go.Proofs.Ythiidgmemoineaa.Pa
open Go.RowKit Go.Proofs.Ythiidgmemoineaa.L Go.Proofs.Ythiidgmemoineaa.V Go.Proofs.Ythiidgmemoineaa.O Go.Proofs.YthiidgmemoineaaW.PrintWords Go.Proofs.YthiidgmemoineaaW.PrintLast Go.Proofs.YthiidgmemoineaaW.PrintMore
set_option linter.unusedVariables false
set_option linter.unusedSimpArgs false
theorem of_n (a : Nat) (q : Nat) (c0 : ByteArray) (ct : Int) (cn : Bool) (A0 : Option Addr) (ca : Nat) (y : List SV) (x p1 p2 p3 : Int) (p4 : Nat) (p5 : ByteArray) (p6 p7 : Int) (p8 : Nat) (p9 : ByteArray) (p10 : List Int) (p11 : Int) (w : World) (ha : y.length = a) (h1 : Kd.C k28 w A0 a y) (h2 : a ≤ ca) (h : zone_Of.f q c0 ct cn y x = some (p1, p2, p3, p4, p5, p6, p7, p8, p9, p10, p11)) :
    Calls Try.prog 14 #[.agg #[.string c0, .int .i64 ct, .bool cn], .slice A0 a ca, .int .i64 x] w fun e w' => ∃ v9_ : Value, e = .returned (.tuple #[.agg #[.int .i64 p1, .int .i64 p2, .int .i64 p3, .float .f64 p4, .string p5, .int .i64 p6, .int .i64 p7, .float .f64 p8, .string p9, v9_], .int .i64 p11]) ∧ Kd.R (Kd.int .u8) 5 w' w.heap.size (fun _ => True) v9_ p10 ∧ Below w.heap.size w w' := by
  subst ha; exact zone_Of.calls q c0 ct cn A0 ca y x p1 p2 p3 p4 p5 p6 p7 p8 p9 p10 p11 w h1 h2 h
/-- The values that are written over. -/
structure Ofw (w : World) (g3 gA nA cA : Nat) (col : Array Value) (xs : List SV) (W : World) : Prop where
  hb : Below w.heap.size w W
  b3 : W.heap[g3]? = some (.cells col 23 (0, 0))
  ra : Kd.R k28 28 W w.heap.size (fun k => k = gA) (.slice (some ⟨gA, 0, none⟩) nA cA) xs
section
variable {w W W' : World} {g3 gA nA cA : Nat} {col : Array Value} {xs xs' : List SV}
theorem Ofw.below (h : Ofw w g3 gA nA cA col xs W) (hb : Below W.heap.size W W') : Ofw w g3 gA nA cA col xs W' := ⟨below_step h.hb hb, blk_below h.b3 hb, Kd.R_below h.ra hb⟩
theorem Ofw.std (h : Ofw w g3 gA nA cA col xs W) : Std W (fun W => Ofw w g3 gA nA cA col xs W) := fun _ hb => h.below hb
theorem Ofw.setA (h : Ofw w g3 gA nA cA col xs W) (hr : Kd.R k28 28 W' w.heap.size (fun k => k = gA) (.slice (some ⟨gA, 0, none⟩) nA cA) xs') (hb : Below w.heap.size w W') (hg : W.grownBy W' (some gA)) : Ofw w g3 gA nA cA col xs' W' :=
  ⟨hb, grown_blk hg h.b3 (row_box h.ra h.b3 (by decide)), hr⟩
theorem Ofw.putN {n : Nat} (h : Ofw w g3 gA (n + 2) cA col (xs ++ mk2) W) (hx : xs.length = n) {j : Nat} (hj : j < n) (y : Int) : Ofw w g3 gA (n + 2) cA col (xs.set j ⟨(rd_T28 xs (j : Int)).f0, y, (rd_T28 xs (j : Int)).f2, (rd_T28 xs (j : Int)).f3⟩ ++ mk2) (W.setCell ⟨gA, j * 4 + 1, none⟩ (.int .i64 y)) := by
  have hp := own_num h.ra (j := j) (by omega) y
  rw [List.set_append_left _ _ (by omega), rdv_left _ _ (by omega)] at hp
  exact h.setA hp.1 (below_set h.hb (Kd.R_base h.ra gA rfl)) hp.2
theorem Ofw.inC (h : Ofw w g3 gA nA cA col xs W) : nA ≤ cA ∧ Kd.C k28 W (some ⟨gA, 0, none⟩) nA xs := by
  have := Kd.R_reads' h.ra
  exact ⟨this.2.1, by rw [this.1]; exact this.2.2⟩
end
section
variable {P : Program} {ops : Array Oper} {rest : List Oper} {o : Oper} {a : Act} {Q : Exit → Act → World → Prop}
/-- An element of a row of one's own is written, whole. -/
theorem st_elem {W w : World} (hgd : o.guard = none) (ty : TypeId) (x y : Operand) (ho : o.op = .store ty x y) (hd : o.dst = none) {g n cap j : Nat} {xs : List SV} (hj : j < n) (v : SV) (hx : a.eval x = .pointer (some ⟨g, j * 4, none⟩)) (hy : a.eval y = .agg #[.int .i64 v.f0, .int .i64 v.f1, .float .f64 v.f2, .string v.f3])
    (hi : (P.info? ty).map (·.size) = some 4) (HR : Kd.R k28 28 W w.heap.size (fun k => k = g) (.slice (some ⟨g, 0, none⟩) n cap) xs) (HB : Below w.heap.size w W)
    (h : ∀ w', Kd.R k28 28 w' w.heap.size (fun k => k = g) (.slice (some ⟨g, 0, none⟩) n cap) (xs.set j v) → Below w.heap.size w w' → W.grownBy w' (some g) → wpList P ops Q rest (a.put none undef) w') : wpList P ops Q (o :: rest) a W := by
  have hc := own_cells HR hj
  rw [Int.toNat_natCast, show k28.sz = 4 from rfl] at hc
  refine wpList_store_mid hgd ty x y ho g (j * 4) #[.int .i64 v.f0, .int .i64 v.f1, .float .f64 v.f2, .string v.f3] hx hy (fun i hi => ?_) hi (by simp [Value.oneCell']) ?_
  · refine ⟨?_, own_hot HR hj i⟩
    have hlt : i < 4 := hi
    match i, hlt with
    | 0, _ => rw [hc 0 _ rfl]; rfl
    | 1, _ => rw [hc 1 _ rfl]; rfl
    | 2, _ => rw [hc 2 _ rfl]; rfl
    | 3, _ => rw [hc 3 _ rfl]; rfl
  · rw [hd]
    have hp := own_elem HR hj v
    have hg := Kd.R_base HR g rfl
    exact h _ hp.1 (below_set (below_set (below_set (below_set HB hg) hg) hg) hg) hp.2
end
theorem rdv_set {l : List SV} {j : Nat} (h : j < l.length) (x : SV) : rd_T28 (l.set j x) (j : Int) = x := by
  unfold rd_T28
  simp [List.getD_eq_getElem?_getD, h]
set_option maxHeartbeats 8000000 in
set_option maxRecDepth 100000 in
theorem zoneOfs_walk (c0 : ByteArray) (ct : Int) (cn : Bool) (A0 : Option Addr) (ca : Nat) (l : List SV) (x : Int) (w : World) (hl0 : Kd.C k28 w A0 l.length l) (hlc : l.length ≤ ca) (hll : l.length ≤ 3518437208780) (hok : okW l) :
    Calls Try.prog 3 #[.agg #[.string c0, .int .i64 ct, .bool cn], .slice A0 l.length ca, .int .i64 x] w fun e w' => e = .returned (.bool true) ∧ Below w.heap.size w w' := by
  have hu31 := Try.underlying31
  have hu23 := Try.underlying23
  have HL0 := Aside0.mk hl0
  have HLC := Aside0.mk hlc
  have HOL := Aside0.mk hok
  have HS := Aside0.mk (Std.bel (Below.refl w.heap.size w))
  clear hl0 hlc hok
  go_enter Try.func3, Try.ntmps3
  go_upto_region 1 with ((with_reducible refine gate_dst (N := 3) rfl ?_); refine box_event ?hg (N := 3) ?hd (cs := #[.string c0, .int .i64 ct, .bool cn]) (t := 23) ?hr ?_; (case hd => rfl); (case hg => rfl); (case hr => first | (go_simp; done) | (go_simp; rfl)); intro g3 hg_ w1 hbox hb_; have HG_ := Aside0.mk hg_; have HX_ := Aside0.mk hbox; have HY_ := Aside0.mk hb_; clear hg_ hbox hb_; have HGg3 := HG_; have HS1 := Aside0.mk (Std.and (Std.blk HX_.out) (Std.step HS.out HY_.out)); clear HS; have HS := HS1; clear HS1; clear HX_ HY_ HG_)
  clear HGg3
  go_upto_region 2 with ((with_reducible refine gate_callee (f := 12) rfl ?_); (with_reducible refine gate_dst (N := 16) rfl ?_); refine goesQ 16 Try.func12 #[.slice A0 l.length ca] ?_; refine (lent_calls A0 ca l _ (Kd.C_below HL0.out HS.out.now.2) HLC.out hll).mono ?_; rintro e w_ ⟨gA, cA, rfl, hm_, hb_⟩; refine ⟨_, rfl, ?_⟩; have HS1 := Aside0.mk (Std.and (Std.row (Kd.R_lower hm_ (below_size HS.out.now.2))) (Std.step HS.out hb_)); clear HS; have HS := HS1; clear HS1; clear hb_ hm_)
  have HT : Aside0 (Ofw w g3 gA (l.length + 2) cA #[.string c0, .int .i64 ct, .bool cn] (l ++ mk2) _) := Aside0.mk ⟨HS.out.now.2.2, HS.out.now.2.1, HS.out.now.1⟩
  clear HS
  go_wp2_with (fail)
  go_loopw [8] (fun s8 wr => ∃ (t : Nat) (xs : List SV), t ≤ 2 ∧ s8 = .int .i64 (t : Int) ∧ Aside0 (xs.length = l.length) ∧ Aside0 (okW xs) ∧ Aside0 (Ofw w g3 gA (l.length + 2) cA #[.string c0, .int .i64 ct, .bool cn] (xs ++ mk2) wr)) (fun i _ => 2 - (intOf i).toNat)
  case atStart => exact ⟨0, l, by omega, rfl, ⟨rfl⟩, HOL, HT⟩
  case round =>
    clear HT
    obtain ⟨t, xs, ht, rfl, HX, HOK, HT⟩ := hrel
    by_cases hlt : t < 2
    · have b1 : decide ((t : Int) < 2) = true := decide_eq_true (by omega)
      obtain ⟨q1, f1⟩ := (zof_e (c0 := c0) (ct := ct) (cn := cn) (x := x) xs HOK.out).ex
      obtain ⟨q2, f2⟩ := (rof_e (c0 := c0) (ct := ct) (cn := cn) (x := x) xs HOK.out).ex
      generalize ofS ct cn xs x = m at f1 f2
      obtain ⟨p1, p2, p3, p4, p5, p6, p7, p8, p9, p10, p11⟩ := m
      have F1 := Aside0.mk f1
      have F2 := Aside0.mk f2
      clear f1 f2
      have HS := Aside0.mk (Ofw.std HT.out)
      clear HT
      have hee : (p11 != p11) = false := bne_self_eq_false _
      go_upto_region 6 with (first | ((with_reducible refine gate_dst (N := 21) rfl ?_); refine Kd.R_lit (k28) _ 28 ?hg (N := 21) ?hd (xs := ([] : List S28)) (inner := []) (ok := fun _ => True) (okp := fun _ => True) ?hr ?hp (fun _ hk => hk) trivial (Below.refl _ _) (Nat.le_refl _) (by simp) ?_; (case hd => rfl); (case hg => rfl); (case hr => first | (go_simp; done) | (go_simp; rfl)); (case hp => exact Reps.none _ _); intro v21 y0 ho_ hb_ hg_ hnew_; clear hg_ hnew_; have HO := Aside0.mk ho_; have HBt := Aside0.mk hb_; clear ho_ hb_) | ((with_reducible refine gate_builtin (b := .append) (xs := #[.tmp 21, .tmp 22]) rfl ?_); at_builtin; refine Kd.R_append_rows (k28) (w0 := wr) wr.heap.size rfl (.tmp 21) (.tmp 22) 24 28 (.agg #[(.int .i64 0), (.int .i64 0), (.float .f64 0), (.string ⟨#[]⟩)]) 40 rfl Try.underlying24 info28 rfl (by decide) (by omega) v21 ([] : List S28) xs _ _ _ (fun _ => True) (fun _ => False) rfl rfl HO.out (Kd.C_below (C_leftn HX.out HS.out.now.inC.2) HBt.out) (fun _ _ h => h) (fun _ h => h.elim) (fun _ _ => trivial) HBt.out (below_size HBt.out) (by have := HX.out; simp; omega) ?_; intro v23 y1 ho_ hb_ hg_ hat_; rw [List.nil_append] at ho_; clear HO HBt; obtain ⟨An, cn_, e23⟩ := Kd.R_slice ho_; subst e23; have HS1 := Aside0.mk (Std.and (Std.rowR ho_ rfl) (Std.step HS.out hb_)); clear HS; have HS := HS1; clear HS1; clear ho_ hb_ hg_ hat_))
      go_upto_region 7 with (first | ((with_reducible refine gate_dst (N := 25) rfl ?_); refine ld_blk (d := (.struct _)) rfl 23 _ rfl (by rfl) (HS.out.now.2.b3) hu23 rfl (by kernel_rfl) ?_) | ((with_reducible refine gate_callee (f := 13) rfl ?_); (with_reducible refine gate_dst (N := 28) rfl ?_); refine goesQ 28 Try.func13 #[.agg #[.string c0, .int .i64 ct, .bool cn], .slice An xs.length cn_, .int .i64 x] ?_; refine (colonnaderef14_Of.calls q2 c0 ct cn An cn_ xs x p1 p2 p3 p4 p5 p6 p7 p8 p9 p10 p11 _ HS.out.now.1.2 HS.out.now.1.1 F2.out).mono ?_; rintro e w_ ⟨v_, rfl, ho_, hb_⟩; obtain ⟨Ar, cAr, ev_⟩ := Kd.R_slice ho_; subst ev_; refine ⟨_, rfl, ?_⟩; have HS1 := Aside0.mk (Std.and (Std.rowR ho_ rfl) (Std.step HS.out hb_)); clear HS; have HS := HS1; clear HS1; clear hb_ ho_) | ((with_reducible refine gate_dst (N := 10) rfl ?_); refine box_event ?hg (N := 10) ?hd (cs := #[.int .i64 0, .int .i64 0, .int .i64 0, .float .f64 0, .string ⟨#[]⟩, .int .i64 0, .int .i64 0, .float .f64 0, .string ⟨#[]⟩, .slice none 0 0]) (t := 31) ?hr ?_; (case hd => rfl); (case hg => rfl); (case hr => first | (go_simp; done) | (go_simp; rfl)); intro g10 hg_ y2 hbox hb_; have HG_ := Aside0.mk hg_; have HX_ := Aside0.mk hbox; have HY_ := Aside0.mk hb_; clear hg_ hbox hb_) | ((with_reducible refine gate_store (p := 10) rfl ?_); refine st_blk rfl 31 _ _ rfl rfl #[.int .i64 p1, .int .i64 p2, .int .i64 p3, .float .f64 p4, .string p5, .int .i64 p6, .int .i64 p7, .float .f64 p8, .string p9, .slice Ar p10.length cAr] (by rfl) (by rfl) HX_.out (by rfl) (by kernel_rfl) (by simp [Value.oneCell']) ?_; intro y3 hbox2 ho_; have hb2_ := Only.belowW ho_ HY_.out (Nat.le_of_eq HG_.out.symm); have HGg10 := HG_; clear HX_ HY_ HG_ ho_; have HS1 := Aside0.mk (Std.and (Std.blk hbox2) (Std.step HS.out hb2_)); clear HS; have HS := HS1; clear HS1; clear hb2_ hbox2))
      clear HGg10
      go_upto_region 8 with (first | ((with_reducible refine gate_dst (N := 32) rfl ?_); refine ld_blk (d := (.struct _)) rfl 23 _ rfl (by rfl) (HS.out.now.2.2.2.b3) hu23 rfl (by kernel_rfl) ?_) | ((with_reducible refine gate_callee (f := 14) rfl ?_); (with_reducible refine gate_dst (N := 35) rfl ?_); refine goesQ 35 Try.func14 #[.agg #[.string c0, .int .i64 ct, .bool cn], .slice (some ⟨gA, 0, none⟩) l.length cA, .int .i64 x] ?_; refine (of_n l.length q1 c0 ct cn (some ⟨gA, 0, none⟩) cA xs x p1 p2 p3 p4 p5 p6 p7 p8 p9 p10 p11 _ HX.out (C_leftn HX.out HS.out.now.2.2.2.inC.2) (Nat.le_trans (Nat.le_add_right _ 2) HS.out.now.2.2.2.inC.1) F1.out).mono ?_; rintro e w_ ⟨v_, rfl, ho_, hb_⟩; obtain ⟨Az, cAz, ev_⟩ := Kd.R_slice ho_; subst ev_; refine ⟨_, rfl, ?_⟩; have HS1 := Aside0.mk (Std.and (Std.rowR ho_ rfl) (Std.step HS.out hb_)); clear HS; have HS := HS1; clear HS1; clear hb_ ho_) | ((with_reducible refine gate_dst (N := 12) rfl ?_); refine box_event ?hg (N := 12) ?hd (cs := #[.int .i64 0, .int .i64 0, .int .i64 0, .float .f64 0, .string ⟨#[]⟩, .int .i64 0, .int .i64 0, .float .f64 0, .string ⟨#[]⟩, .slice none 0 0]) (t := 31) ?hr ?_; (case hd => rfl); (case hg => rfl); (case hr => first | (go_simp; done) | (go_simp; rfl)); intro g12 hg_ y4 hbox hb_; have HG_ := Aside0.mk hg_; have HX_ := Aside0.mk hbox; have HY_ := Aside0.mk hb_; clear hg_ hbox hb_) | ((with_reducible refine gate_store (p := 12) rfl ?_); refine st_blk rfl 31 _ _ rfl rfl #[.int .i64 p1, .int .i64 p2, .int .i64 p3, .float .f64 p4, .string p5, .int .i64 p6, .int .i64 p7, .float .f64 p8, .string p9, .slice Az p10.length cAz] (by rfl) (by rfl) HX_.out (by rfl) (by kernel_rfl) (by simp [Value.oneCell']) ?_; intro y5 hbox2 ho_; have hb2_ := Only.belowW ho_ HY_.out (Nat.le_of_eq HG_.out.symm); have HGg12 := HG_; clear HX_ HY_ HG_ ho_; have HS1 := Aside0.mk (Std.and (Std.blk hbox2) (Std.step HS.out hb2_)); clear HS; have HS := HS1; clear HS1; clear hb2_ hbox2))
      clear HGg12
      go_wp2_with (first | ((with_reducible refine gate_callee (f := 15) rfl ?_); (with_reducible refine gate_dst (N := 39) rfl ?_); refine goesQ 39 Try.func15 #[.int .i64 p11] ?_; refine (colonnadelaw14_num.calls p11 p11 _ rfl).mono ?_; rintro e w_ ⟨rfl, hb0_⟩; have hb_ := hb0_.below; clear hb0_; refine ⟨_, rfl, ?_⟩; have HS1 := Aside0.mk (Std.step HS.out hb_); clear HS; have HS := HS1; clear HS1; clear hb_) | ((with_reducible refine gate_dst (N := 43) rfl ?_); refine gate_guard (by rfl) ?_; refine ld_blk (d := (.struct _)) rfl 31 _ rfl (by rfl) (HS.out.now.1) hu31 rfl (by kernel_rfl) ?_) | ((with_reducible refine gate_dst (N := 44) rfl ?_); refine gate_guard (by rfl) ?_; refine ld_blk (d := (.struct _)) rfl 31 _ rfl (by rfl) (HS.out.now.2.2.1) hu31 rfl (by kernel_rfl) ?_) | ((with_reducible refine gate_callee (f := 16) rfl ?_); (with_reducible refine gate_dst (N := 45) rfl ?_); refine gate_guard (by rfl) ?_; refine goesQ 45 Try.func16 #[.agg #[.int .i64 p1, .int .i64 p2, .int .i64 p3, .float .f64 p4, .string p5, .int .i64 p6, .int .i64 p7, .float .f64 p8, .string p9, .slice Az p10.length cAz], .agg #[.int .i64 p1, .int .i64 p2, .int .i64 p3, .float .f64 p4, .string p5, .int .i64 p6, .int .i64 p7, .float .f64 p8, .string p9, .slice Ar p10.length cAr]] ?_; refine (colonnaderef14_Same.calls p1 p2 p3 p4 p5 p6 p7 p8 p9 Az cAz p10 p1 p2 p3 p4 p5 p6 p7 p8 p9 Ar cAr p10 true _ HS.out.now.2.1.2 HS.out.now.2.1.1 HS.out.now.2.2.2.1.2 HS.out.now.2.2.2.1.1 (same_self p1 p2 p3 p4 p5 p6 p7 p8 p9 p10)).mono ?_; rintro e w_ ⟨rfl, hb_⟩; refine ⟨_, rfl, ?_⟩; have HS1 := Aside0.mk (Std.step HS.out hb_); clear HS; have HS := HS1; clear HS1; clear hb_) | ((with_reducible refine gate_callee (f := 17) rfl ?_); (with_reducible refine gate_dst (N := 51) rfl ?_); refine gate_guard (by rfl) ?_; refine goesQ 51 Try.func17 #[.slice (some ⟨gA, 0, none⟩) l.length cA, .slice An xs.length cn_] ?_; refine (kept_n l.length An (some ⟨gA, 0, none⟩) cn_ cA xs _ HX.out ⟨HS.out.now.2.2.2.2.2.inC.1, HS.out.now.2.2.2.2.2.inC.2⟩ HS.out.now.2.2.2.2.1.2 HS.out.now.2.2.2.2.1.1 hll).mono ?_; rintro e w_ ⟨rfl, hb_⟩; refine ⟨_, rfl, ?_⟩; have HS1 := Aside0.mk (Std.step HS.out hb_); clear HS; have HS := HS1; clear HS1; clear hb_))
      have HT := Aside0.mk HS.out.now.2.2.2.2.2
      clear HS hee F1 F2 b1
      go_loopw [14] (fun s14 wr => ∃ (j : Nat) (xs : List SV), j ≤ l.length ∧ s14 = .int .i64 (j : Int) ∧ Aside0 (xs.length = l.length) ∧ Aside0 (okW xs) ∧ Aside0 (Ofw w g3 gA (l.length + 2) cA #[.string c0, .int .i64 ct, .bool cn] (xs ++ mk2) wr)) (fun i _ => l.length - (intOf i).toNat)
      case atStart => exact ⟨0, xs, by omega, rfl, HX, HOK, HT⟩
      case round =>
        clear HT HX HOK
        obtain ⟨j, xs, hj, rfl, HX, HOK, HT⟩ := hrel
        by_cases hlj : j < l.length
        · have p1_ : (0 : Int) ≤ (j : Int) := by omega
          have p2_ : (j : Int) < (l.length : Int) := by omega
          have p3_ : decide ((j : Int) < (l.length : Int)) = true := decide_eq_true p2_
          have p4_ : decide (j < l.length) = true := decide_eq_true hlj
          have hw1 : wrap64 ((l.length : Int) - 1) = (l.length : Int) - 1 := wrap64_in (by omega) (by omega)
          have hw2 : wrap64 ((l.length : Int) - 1 - (j : Int)) = (l.length : Int) - 1 - (j : Int) := wrap64_in (by omega) (by omega)
          obtain ⟨ad, rfl, _, _, _, _⟩ := at_T28 HL0.out ((l.length - 1 - j : Nat) : Int) (by omega) (by omega)
          have hml : l.length - 1 - j < l.length := by omega
          have q1_ : (0 : Int) ≤ (l.length : Int) - 1 - (j : Int) := by omega
          have q2_ : (l.length : Int) - 1 - (j : Int) < (l.length : Int) := by omega
          obtain ⟨d0, d1, d2, d3⟩ := el_at (Kd.C_below HL0.out HT.out.hb) hml
          have HML := Aside0.mk hml
          have HLJ := Aside0.mk hlj
          clear hml
          go_upto_region 14 with ((with_reducible refine gate_store (p := 70) rfl ?_); refine st_elem (w := w) rfl 28 _ _ rfl rfl (j := j) (show j < l.length + 2 by omega) (rd_T28 l ((l.length - 1 - j : Nat) : Int)) (by rfl) (by rfl) (by kernel_rfl) HT.out.ra HT.out.hb ?_; intro y7 hR_ hB_ hG_; rw [List.set_append_left _ _ (by have := HX.out; omega)] at hR_; have HT1 := Aside0.mk (HT.out.setA hR_ hB_ hG_); clear HT hR_ hB_ hG_; have HT := HT1; clear HT1)
          have HX1 : Aside0 ((xs.set j (rd_T28 l ((l.length - 1 - j : Nat) : Int))).length = l.length) := ⟨by rw [List.length_set]; exact HX.out⟩
          have HOK1 : Aside0 (okW (xs.set j (rd_T28 l ((l.length - 1 - j : Nat) : Int)))) := ⟨okW_set HOK.out j (HOL.out _ (rdv_mem HML.out))⟩
          have HE : Aside0 (rd_T28 (xs.set j (rd_T28 l ((l.length - 1 - j : Nat) : Int))) (j : Int) = (rd_T28 l ((l.length - 1 - j : Nat) : Int))) := ⟨rdv_set (by have := HX.out; have := HLJ.out; omega) _⟩
          clear HX HOK d0 d1 d2 d3
          generalize xs.set j (rd_T28 l ((l.length - 1 - j : Nat) : Int)) = ys at HT HX1 HOK1 HE
          obtain ⟨e0, e1, e2, e3⟩ := el_at (C_leftn HX1.out HT.out.inC.2) HLJ.out
          rw [add_off] at e0 e1 e2 e3
          rw [HE.out] at e0 e1 e2 e3
          by_cases hk1 : (rd_T28 l ((l.length - 1 - j : Nat) : Int)).f0 = 1
          · have k1 : ((rd_T28 l ((l.length - 1 - j : Nat) : Int)).f0 == 1) = true := beq_iff_eq.mpr hk1
            clear hk1
            have hf := own_hot HT.out.ra (j := j) (by omega) 1
            go_wp2_with (fail)
            go_roundw
            case rel => exact ⟨j + 1, _, by omega, by go_num, ⟨by rw [List.length_set]; exact HX1.out⟩, ⟨okW_set HOK1.out j (by rw [HE.out]; exact HOL.out (rd_T28 l ((l.length - 1 - j : Nat) : Int)) (rdv_mem HML.out))⟩, ⟨HT.out.putN HX1.out HLJ.out _⟩⟩
            case measure => simp [intOf]; omega
          · have k1 : ((rd_T28 l ((l.length - 1 - j : Nat) : Int)).f0 == 1) = false := beq_eq_false_iff_ne.mpr hk1
            clear hk1
            go_wp2_with (fail)
            go_roundw
            case rel => exact ⟨j + 1, ys, by omega, by go_num, HX1, HOK1, HT⟩
            case measure => simp [intOf]; omega
        · have p3_ : decide ((j : Int) < (l.length : Int)) = false := decide_eq_false (by omega)
          have p4_ : decide (j < l.length) = false := decide_eq_false hlj
          go_wp2_with (fail)
          go_roundw
          case rel => exact ⟨t + 1, xs, by omega, by go_num, HX, HOK, HT⟩
          case measure => simp [intOf]; omega
    · have b1 : decide ((t : Int) < 2) = false := decide_eq_false (by omega)
      go_wp2_with (fail)
      go_ret
      exact ⟨rfl, HT.out.hb⟩
theorem Walk.ZoneOfs (c0 : ByteArray) (ct : Int) (cn : Bool) (A0 : Option Addr) (ca : Nat) (l : List SV) (x : Int) (w : World) (hl0 : Kd.C k28 w A0 l.length l) (hlc : l.length ≤ ca)
    (h0 : okS23 ⟨c0, ct, cn⟩) (h1 : l.length * 40 ≤ 140737488351232 ∧ ∀ y0_ ∈ l, okS28 y0_) (h2 : (Lit.int .i64 x).wf = true) : Calls Try.prog 3 #[.agg #[.string c0, .int .i64 ct, .bool cn], .slice A0 l.length ca, .int .i64 x] w fun e w' => e = .returned (.bool true) ∧ Below w.heap.size w w' :=
  zoneOfs_walk c0 ct cn A0 ca l x w hl0 hlc (by omega) (fun x hx => F.wf_word (h1.2 x hx).2.2.1)
end Go.Proofs.Ythiidgmemoineaa.Pa
