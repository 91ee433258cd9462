/- The texts of ZoneOfs, merged: part 14. -/
import Derived.Test.YthiidgmemoineaaQZoneOfs12
import Derived.Test.YthiidgmemoineaaQZoneOfs13
import Derived.Test.YthiidgmemoineaaQZoneOfs6
import Derived.Deep.DeepCutAuto
/- handed, stays: a record whose filter has marks behind it: their walks by hand. -/
namespace Go.Proofs.Ythiidgmemoineaa.Pa
open Go.RowKit Go.Proofs.Ythiidgmemoineaa.L Go.Proofs.YthiidgmemoineaaW.PrintWords Go.Proofs.YthiidgmemoineaaW.PrintLast Go.Proofs.YthiidgmemoineaaW.PrintMore
set_option linter.unusedVariables false
set_option linter.unusedSimpArgs false
/-- The marks. -/
def mk66 : List Int := (List.range 66).map fun j : Nat => 150 + (j : Int)
theorem mk66_len : mk66.length = 66 := by simp [mk66]
theorem mk66_get (j : Nat) (h : j < 66) : mk66.getD j 0 = 150 + (j : Int) := by
  simp [mk66, List.getD_eq_getElem?_getD, h]
theorem mk66_next (l : List Int) (j : Nat) (h : j < 66) : l ++ mk66.take j ++ [150 + (j : Int)] = l ++ mk66.take (j + 1) := by
  rw [List.append_assoc]
  congr 1
  rw [List.take_succ_eq_append_getElem (by rw [mk66_len]; exact h)]
  congr 2
  simp [mk66]
theorem results_c {P : Program} {fn : Func} {p : Tmp} {ty : TypeId} (h : fn.results = #[.cell p ty]) (tmps : Array Value) (w : World) (g : Nat) (t : TypeId) (cs : Array Value) (fr : Nat × Nat) (d : TypeDesc)
    (hp : tmps.getD p undef = .pointer (some ⟨g, 0, none⟩)) (hg : w.heap[g]? = some (.cells cs t fr))
    (hu : P.underlying ty = some d) (hd : (match d with | .struct _ | .array _ _ => true | _ => false) = true) (hi : (P.info? ty).map (·.size) = some cs.size) :
    (results fn tmps).run P w = .ok (.agg cs) w := by
  have hp' : tmps[p]?.getD undef = .pointer (some ⟨g, 0, none⟩) := by simpa using hp
  simp [results, h, hp', asAddr, run_loadVar_row w g t ty cs fr d hg hu hd hi]
structure HdA (w : World) (g1 g2 : Nat) (c1 c2 : Array Value) (W : World) : Prop where
  hb : Below w.heap.size w W
  b1 : W.heap[g1]? = some (.cells c1 31 (0, 0))
  b2 : W.heap[g2]? = some (.cells c2 31 (0, 0))
  ge : w.heap.size ≤ g1 ∧ w.heap.size ≤ g2 ∧ g1 ≠ g2
section
variable {w W W' : World} {g1 g2 : Nat} {c1 c2 c' : Array Value} {v v' : Value} {xs ys : List Int} {o : Option Nat}
theorem hd_start {w1 w2 : World} (hg1 : g1 = w.heap.size) (h1 : w1.heap[g1]? = some (.cells c1 31 (0, 0))) (hb1 : Below w.heap.size w w1) (hg2 : g2 = w1.heap.size) (h2 : w2.heap[g2]? = some (.cells c2 31 (0, 0))) (hb2 : Below w1.heap.size w1 w2) : HdA w g1 g2 c1 c2 w2 := by
  have h3 := blk_lt h1
  have h5 := hb1.size
  exact ⟨below_step hb1 hb2, blk_below h1 hb2, h2, by omega, by omega, by omega⟩
theorem HdA.below (h : HdA w g1 g2 c1 c2 W) (hb : Below W.heap.size W W') : HdA w g1 g2 c1 c2 W' := ⟨below_step h.hb hb, blk_below h.b1 hb, blk_below h.b2 hb, h.ge⟩
theorem HdA.set1 (h : HdA w g1 g2 c1 c2 W) (hx : W'.heap[g1]? = some (.cells c' 31 (0, 0))) (ho : Only W W' g1) : HdA w g1 g2 c' c2 W' := ⟨ho.below h.hb h.ge.1, hx, ho.blk h.b2 h.ge.2.2.symm, h.ge⟩
theorem HdA.set2 (h : HdA w g1 g2 c1 c2 W) (hx : W'.heap[g2]? = some (.cells c' 31 (0, 0))) (ho : Only W W' g2) : HdA w g1 g2 c1 c' W' := ⟨ho.below h.hb h.ge.2.1, ho.blk h.b1 h.ge.2.2, hx, h.ge⟩
/-- The same with a row of bytes of its own. -/
structure HdR (w : World) (g1 g2 : Nat) (c1 c2 : Array Value) (v : Value) (xs : List Int) (W : World) : Prop where
  a : HdA w g1 g2 c1 c2 W
  row : Kd.R (Kd.int .u8) 5 W w.heap.size (fun k => k ≠ g1 ∧ k ≠ g2) v xs
theorem HdA.lt (h : HdA w g1 g2 c1 c2 W) : g1 < W.heap.size ∧ g2 < W.heap.size := ⟨blk_lt h.b1, blk_lt h.b2⟩
theorem HdR.start (h : HdA w g1 g2 c1 c2 W) (ho : Kd.R (Kd.int .u8) 5 W' W.heap.size (fun _ => True) v xs) (hb : Below W.heap.size W W') : HdR w g1 g2 c1 c2 v xs W' := by
  refine ⟨h.below hb, Kd.R_lower (Kd.R_mono (Kd.R_bound ho) (fun k hk => ?_)) (below_size h.hb)⟩
  have := h.lt
  have := hk.2.1
  exact ⟨by omega, by omega⟩
theorem HdR.grow (h : HdR w g1 g2 c1 c2 v xs W) (ho : Kd.R (Kd.int .u8) 5 W' w.heap.size (fun k => k ≠ g1 ∧ k ≠ g2) v' ys) (hb : Below w.heap.size w W') (hg : W.grownBy W' v.ownBlock) : HdR w g1 g2 c1 c2 v' ys W' := by
  have hl := h.a.lt
  have n1 : some g1 ≠ v.ownBlock := fun e => (h.row.1 _ e.symm).1 rfl
  have n2 : some g2 ≠ v.ownBlock := fun e => (h.row.1 _ e.symm).2 rfl
  exact ⟨⟨hb, (hg.block _ hl.1 n1).trans h.a.b1, (hg.block _ hl.2 n2).trans h.a.b2, h.a.ge⟩, ho⟩
theorem HdR.fresh (h : HdR w g1 g2 c1 c2 v xs W) : ∀ k, W.heap.size ≤ k → k ≠ g1 ∧ k ≠ g2 := fun k hk => by
  have := h.a.lt
  exact ⟨by omega, by omega⟩
theorem HdR.set1 (h : HdR w g1 g2 c1 c2 v xs W) (hx : W'.heap[g1]? = some (.cells c' 31 (0, 0))) (ho : Only W W' g1) : HdR w g1 g2 c' c2 v xs W' := ⟨h.a.set1 hx ho, Kd.R_step h.row (fun k hk _ => ho.block k hk.1)⟩
theorem HdR.set2 (h : HdR w g1 g2 c1 c2 v xs W) (hx : W'.heap[g2]? = some (.cells c' 31 (0, 0))) (ho : Only W W' g2) : HdR w g1 g2 c1 c' v xs W' := ⟨h.a.set2 hx ho, Kd.R_step h.row (fun k hk _ => ho.block k hk.2)⟩
end
set_option maxHeartbeats 4000000 in
set_option maxRecDepth 100000 in
theorem handed_own (n k i : Int) (r : Nat) (s : ByteArray) (k' i' : Int) (r' : Nat) (s' : ByteArray) (A : Option Addr) (c : Nat) (l : List Int) (w : World) (hr : Kd.C (Kd.int .u8) w A l.length l) (hc : l.length ≤ c) (hl : l.length ≤ 140737488351232) :
    Calls Try.prog 18 #[.agg #[.int .i64 n, .int .i64 k, .int .i64 i, .float .f64 r, .string s, .int .i64 k', .int .i64 i', .float .f64 r', .string s', .slice A l.length c]] w fun e w' => ∃ B cb, e = .returned (.agg #[.int .i64 n, .int .i64 k, .int .i64 i, .float .f64 r, .string s, .int .i64 k', .int .i64 i', .float .f64 r', .string s', .slice B l.length cb]) ∧ Kd.R (Kd.int .u8) 5 w' w.heap.size (fun _ => True) (.slice B (l.length + 66) cb) (l ++ mk66) ∧ Below w.heap.size w w' := by
  have hu31 := Try.underlying31
  have hu29 := Try.underlying29
  have HR0 := Aside0.mk hr
  have HC0 := Aside0.mk hc
  clear hr hc
  go_enter Try.func18, Try.ntmps18
  go_upto_region 1 with (first | ((with_reducible refine gate_dst (N := 1) rfl ?_); refine box_event ?hg (N := 1) ?hd (cs := #[.int .i64 n, .int .i64 k, .int .i64 i, .float .f64 r, .string s, .int .i64 k', .int .i64 i', .float .f64 r', .string s', .slice A l.length c]) (t := 31) ?hr ?_; (case hd => rfl); (case hg => rfl); (case hr => first | (go_simp; done) | (go_simp; rfl)); intro g1 hg_ w1 hbox hb_; have HG_ := Aside0.mk hg_; have HX_ := Aside0.mk hbox; have HY_ := Aside0.mk hb_; clear hg_ hbox hb_; have HG1 := HG_; have HX1 := HX_; have HB1 := HY_; clear HX_ HY_ HG_) | ((with_reducible refine gate_dst (N := 2) rfl ?_); refine box_event ?hg (N := 2) ?hd (cs := #[.int .i64 0, .int .i64 0, .int .i64 0, .float .f64 0, .string ⟨#[]⟩, .int .i64 0, .int .i64 0, .float .f64 0, .string ⟨#[]⟩, .slice none 0 0]) (t := 31) ?hr ?_; (case hd => rfl); (case hg => rfl); (case hr => first | (go_simp; done) | (go_simp; rfl)); intro g2 hg_ w2 hbox hb_; have HG_ := Aside0.mk hg_; have HX_ := Aside0.mk hbox; have HY_ := Aside0.mk hb_; clear hg_ hbox hb_; have HT := Aside0.mk (hd_start HG1.out HX1.out HB1.out HG_.out HX_.out HY_.out); clear HG1 HX1 HB1; clear HX_ HY_ HG_))
  go_wp2_with (first | ((with_reducible refine gate_dst (N := 5) rfl ?_); refine Kd.R_lit (Kd.int .u8) _ 5 ?hg (N := 5) ?hd (xs := ([] : List Int)) (inner := []) (ok := fun _ => True) (okp := fun _ => True) ?hr ?hp (fun _ hk => hk) trivial (Below.refl _ _) (Nat.le_refl _) (by simp) ?_; (case hd => rfl); (case hg => rfl); (case hr => first | (go_simp; done) | (go_simp; rfl)); (case hp => exact (Reps.none _ _)); intro v5 w3 ho_ hb_ hg_ hnew_; clear hg_ hnew_; have HT1 := Aside0.mk (HdR.start HT.out ho_ hb_); clear HT; have HT := HT1; clear HT1; clear ho_ hb_) | ((with_reducible refine gate_dst (N := 7) rfl ?_); refine ld_fld rfl 29 _ rfl (.slice A l.length c) (by rfl) (HT.out.a.b1) (by rfl) hu29 rfl ?_) | ((with_reducible refine gate_builtin (b := .append) (xs := #[.tmp 5, .tmp 7]) rfl ?_); at_builtin; refine Kd.R_append_rows (Kd.int .u8) (w0 := w) w.heap.size rfl (.tmp 5) (.tmp 7) 29 5 (.int .u8 0) 1 rfl Try.underlying29 info5 rfl (by decide) (by omega) v5 ([] : List Int) l _ _ _ (fun k => k ≠ g1 ∧ k ≠ g2) (fun _ => False) rfl rfl HT.out.row (Kd.C_below HR0.out HT.out.a.hb) (fun _ _ h => h) (fun _ h => h.elim) HT.out.fresh HT.out.a.hb (below_size HT.out.a.hb) (by simp; omega) ?_; intro v8 w4 ho_ hb_ hg_ hat_; rw [List.nil_append] at ho_; have HT1 := Aside0.mk (HT.out.grow ho_ hb_ hg_); clear HT; have HT := HT1; clear HT1; clear ho_ hb_ hg_ hat_))
  go_loopw [3, 4] (fun s3 s4 wr => ∃ j : Nat, j ≤ 66 ∧ s4 = .int .i64 (j : Int) ∧ Aside0 (HdR w g1 g2 #[.int .i64 n, .int .i64 k, .int .i64 i, .float .f64 r, .string s, .int .i64 k', .int .i64 i', .float .f64 r', .string s', .slice A l.length c] #[.int .i64 0, .int .i64 0, .int .i64 0, .float .f64 0, .string ⟨#[]⟩, .int .i64 0, .int .i64 0, .float .f64 0, .string ⟨#[]⟩, .slice none 0 0] s3 (l ++ mk66.take j) wr)) (fun _ i _ => 66 - (intOf i).toNat)
  case atStart => exact ⟨0, by omega, rfl, ⟨by simpa using HT.out⟩⟩
  case round =>
    clear HT
    obtain ⟨j, hj, rfl, HT⟩ := hrel
    by_cases hlt : j < 66
    · have b1 : decide ((j : Int) < 66) = true := decide_eq_true (by omega)
      have HLT := Aside0.mk hlt
      have hjl := List.length_take_le j mk66
      go_wp2_with (first | ((with_reducible refine gate_builtin (b := .append) (xs := #[.tmp 13, .tmp 17]) rfl ?_); at_builtin; refine Kd.R_append (Kd.int .u8) (w0 := w) w.heap.size rfl (.tmp 13) (.tmp 17) 29 5 (.int .u8 0) 1 rfl Try.underlying29 info5 rfl (by decide) (by omega) _ (l ++ mk66.take j) (150 + (j : Int)) [.int .u8 (150 + (j : Int))] (fun k => k ≠ g1 ∧ k ≠ g2) (fun _ => False) rfl rfl ?aP (fun _ hk => hk.elim) HT.out.fresh HT.out.row HT.out.a.hb (below_size HT.out.a.hb) ?aL ?_; (case aP => exact rfl); (case aL => simp; omega); intro v9 w6 ho_ hb_ hg_ hat_; rw [mk66_next l j HLT.out] at ho_; have HT1 := Aside0.mk (HT.out.grow ho_ hb_ hg_); clear HT; have HT := HT1; clear HT1; clear ho_ hb_ hg_ hat_))
      go_roundw
      case rel => exact ⟨j + 1, by omega, by go_num, HT⟩
      case measure => simp [intOf]; omega
    · obtain rfl : j = 66 := by omega
      have b1 : decide (((66 : Nat) : Int) < 66) = false := by decide
      have ej : l ++ mk66.take 66 = l ++ mk66 := by rw [List.take_of_length_le (by rw [mk66_len]; exact Nat.le_refl _)]
      rw [ej] at HT
      clear ej hlt hj
      obtain ⟨B, cb, es⟩ := Kd.R_slice HT.out.row
      have ell : (l ++ mk66).length = l.length + 66 := by rw [List.length_append, mk66_len]
      rw [ell] at es
      subst es
      have hq := Kd.R_reads' HT.out.row
      have hcap : l.length + 66 ≤ cb := hq.2.1
      have HCB := Aside0.mk hq
      clear hq
      obtain ⟨i5, hi5, _, hsz5, _⟩ := info_parts info5
      have hcut := cut_to (P := Try.prog) 29 5 .i64 Try.underlying29 hi5 B (l.length + 66) cb (l.length : Int) (by omega) (by omega) hcap
      clear hi5 hsz5
      go_wp2_with (first | ((with_reducible refine gate_dst (N := 21) rfl ?_); refine ld_fld rfl 29 _ rfl (.slice A l.length c) (by rfl) (HT.out.a.b1) (by rfl) hu29 rfl ?_) | ((with_reducible refine gate_store (p := 24) rfl ?_); refine st_fld rfl 29 _ _ rfl rfl (.slice B l.length cb) (by rfl) (by rfl) HT.out.a.b1 (by simp) (by kernel_rfl) (by simp [Value.oneCell']) #[.int .i64 n, .int .i64 k, .int .i64 i, .float .f64 r, .string s, .int .i64 k', .int .i64 i', .float .f64 r', .string s', .slice B l.length cb] (by rfl) (by have z_ := (blk_cell HT.out.a.b1 9).trans rfl; have f_ := blk_frozen HT.out.a.b1 9; go_simp) ?_; intro w7 hx_ ho_; have HT1 := Aside0.mk (HT.out.set1 hx_ ho_); clear HT; have HT := HT1; clear HT1; clear hx_ ho_) | ((with_reducible refine gate_dst (N := 25) rfl ?_); refine ld_blk (d := (.struct _)) rfl 31 _ rfl (by rfl) (HT.out.a.b1) hu31 rfl (by kernel_rfl) ?_) | ((with_reducible refine gate_store (p := 2) rfl ?_); refine st_blk rfl 31 _ _ rfl rfl #[.int .i64 n, .int .i64 k, .int .i64 i, .float .f64 r, .string s, .int .i64 k', .int .i64 i', .float .f64 r', .string s', .slice B l.length cb] (by rfl) (by rfl) HT.out.a.b2 (by rfl) (by kernel_rfl) (by simp [Value.oneCell']) ?_; intro w8 hx_ ho_; have HT1 := Aside0.mk (HT.out.set2 hx_ ho_); clear HT; have HT := HT1; clear HT1; clear hx_ ho_))
      simp only [Act.put, List.setIfInBounds_toArray, List.set_cons_succ, List.set_cons_zero]
      refine bodyPost_ret (results_c rfl _ _ g2 31 #[.int .i64 n, .int .i64 k, .int .i64 i, .float .f64 r, .string s, .int .i64 k', .int .i64 i', .float .f64 r', .string s', .slice B l.length cb] (0, 0) _ rfl HT.out.a.b2 hu31 rfl (by kernel_rfl)) rfl ?_
      exact ⟨_, _, rfl, Kd.R_mono HT.out.row (fun _ _ => trivial), HT.out.a.hb⟩
theorem handed_calls (n k i : Int) (r : Nat) (s : ByteArray) (k' i' : Int) (r' : Nat) (s' : ByteArray) (A : Option Addr) (c : Nat) (l : List Int) (w : World) (hr : Kd.C (Kd.int .u8) w A l.length l) (hc : l.length ≤ c) (hl : l.length ≤ 140737488351232) :
    Calls Try.prog 18 #[.agg #[.int .i64 n, .int .i64 k, .int .i64 i, .float .f64 r, .string s, .int .i64 k', .int .i64 i', .float .f64 r', .string s', .slice A l.length c]] w fun e w' => ∃ B cb, e = .returned (.agg #[.int .i64 n, .int .i64 k, .int .i64 i, .float .f64 r, .string s, .int .i64 k', .int .i64 i', .float .f64 r', .string s', .slice B l.length cb]) ∧ (l.length + 66 ≤ cb ∧ Kd.C (Kd.int .u8) w' B (l.length + 66) (l ++ mk66)) ∧ Below w.heap.size w w' := by
  refine (handed_own n k i r s k' i' r' s' A c l w hr hc hl).mono ?_
  rintro e w' ⟨B, cb, h1, h2, h3⟩
  have hq := Kd.R_reads' h2
  rw [List.length_append, mk66_len] at hq
  exact ⟨B, cb, h1, ⟨hq.2.1, hq.2.2⟩, h3⟩
theorem same_self (n k i : Int) (r : Nat) (s : ByteArray) (k' i' : Int) (r' : Nat) (s' : ByteArray) (l : List Int) : colonnaderef14_Same.f n k i r s k' i' r' s' l n k i r s k' i' r' s' l = some true := by
  unfold colonnaderef14_Same.f colonnaderef05_Same.f
  simp
/-- A row with marks behind it is a row. -/
theorem C_left {W : World} {B : Option Addr} {l : List Int} (h : Kd.C (Kd.int .u8) W B (l.length + 66) (l ++ mk66)) : Kd.C (Kd.int .u8) W B l.length l := by
  have e : (l ++ mk66).length = l.length + 66 := by rw [List.length_append, mk66_len]
  have h2 : Kd.C (Kd.int .u8) W B (l ++ mk66).length (l ++ mk66) := by rw [e]; exact h
  have := Kd.C_take (m := l.length) h2 (by omega)
  rwa [List.take_left] at this
theorem cut_cap {P : Program} (t e : TypeId) (kh : IntKind) {i : TypeInfo} (ht : P.underlying t = some (.slice e)) (hi : P.info? e = some i) (A : Option Addr) (n c : Nat) (j : Int) (h0 : 0 ≤ j) (hm : j ≤ c) :
    ∀ W : World, (Instr.slice t (.slice A n c) none (some (.int kh j)) none).run P W = .ok (.slice A j.toNat c) W := by
  intro W
  have hel : P.elem t = e := by simp [Program.elem, ht]
  have hu : P.underlying t = some (.slice (P.elem t)) := by rw [hel]; exact ht
  have ha : (A.map fun x => x.add 0) = A := by cases A <;> simp [Addr.add]
  rw [run_slice_h W t A n c hu kh j h0 (by omega), hel]
  simp [sizeOf, typeInfo, hi, sliced, Result.andThen, ha]
theorem at_mark {W : World} {B : Option Addr} {l : List Int} (h : Kd.C (Kd.int .u8) W B (l.length + 66) (l ++ mk66)) (j : Nat) (hj : j < 66) : ∃ ad, B = some ad ∧ W.cell? (ad.add (l.length + j)) = some (.int .u8 (150 + (j : Int))) := by
  obtain ⟨ad, c, e, _, hK, hc0⟩ := Kd.C_get h (0 : Int) ((l.length + j : Nat) : Int) (by omega) (by omega)
  refine ⟨ad, e, ?_⟩
  have ex : (l ++ mk66).getD ((l.length + j : Nat) : Int).toNat 0 = 150 + (j : Int) := by
    rw [Int.toNat_natCast, List.getD_eq_getElem?_getD, List.getElem?_append_right (by omega), show l.length + j - l.length = j by omega, ← List.getD_eq_getElem?_getD, mk66_get j hj]
  rw [ex] at hK
  have hc : c = [.int .u8 (150 + (j : Int))] := hK
  subst hc
  have q : W.cell? (ad.add ((l.length + j) * 1 + 0)) = some (.int .u8 (150 + (j : Int))) := hc0 0 _ rfl
  rwa [Nat.mul_one, Nat.add_zero] at q
set_option maxHeartbeats 4000000 in
set_option maxRecDepth 100000 in
theorem stays_calls (n k i : Int) (r : Nat) (s : ByteArray) (k' i' : Int) (r' : Nat) (s' : ByteArray) (A B : Option Addr) (c cb : Nat) (l : List Int) (w : World) (hr : Kd.C (Kd.int .u8) w A l.length l) (hc : l.length ≤ c) (hl : l.length ≤ 140737488351232) (hm : l.length + 66 ≤ cb ∧ Kd.C (Kd.int .u8) w B (l.length + 66) (l ++ mk66)) :
    Calls Try.prog 23 #[.agg #[.int .i64 n, .int .i64 k, .int .i64 i, .float .f64 r, .string s, .int .i64 k', .int .i64 i', .float .f64 r', .string s', .slice B l.length cb], .agg #[.int .i64 n, .int .i64 k, .int .i64 i, .float .f64 r, .string s, .int .i64 k', .int .i64 i', .float .f64 r', .string s', .slice A l.length c]] w fun e w' => e = .returned (.bool true) ∧ Below w.heap.size w w' := by
  have hu31 := Try.underlying31
  have hu29 := Try.underlying29
  have hu5 := Try.underlying5
  have hm64 := hm.2.2.1
  have hcap := hm.1
  have HS := Aside0.mk (Std.and (Std.rowC hm.1 hm.2) (Std.and (Std.rowC hc hr) (Std.bel (Below.refl w.heap.size w))))
  clear hr hc hm
  go_enter Try.func23, Try.ntmps23
  go_upto_region 1 with (first | ((with_reducible refine gate_dst (N := 2) rfl ?_); refine box_event ?hg (N := 2) ?hd (cs := #[.int .i64 n, .int .i64 k, .int .i64 i, .float .f64 r, .string s, .int .i64 k', .int .i64 i', .float .f64 r', .string s', .slice B l.length cb]) (t := 31) ?hr ?_; (case hd => rfl); (case hg => rfl); (case hr => first | (go_simp; done) | (go_simp; rfl)); intro g2 hg_ w1 hbox hb_; have HG_ := Aside0.mk hg_; have HX_ := Aside0.mk hbox; have HY_ := Aside0.mk hb_; clear hg_ hbox hb_; have HGg2 := HG_; have HS1 := Aside0.mk (Std.and (Std.blk HX_.out) (Std.step HS.out HY_.out)); clear HS; have HS := HS1; clear HS1; clear HX_ HY_ HG_) | ((with_reducible refine gate_dst (N := 3) rfl ?_); refine box_event ?hg (N := 3) ?hd (cs := #[.int .i64 n, .int .i64 k, .int .i64 i, .float .f64 r, .string s, .int .i64 k', .int .i64 i', .float .f64 r', .string s', .slice A l.length c]) (t := 31) ?hr ?_; (case hd => rfl); (case hg => rfl); (case hr => first | (go_simp; done) | (go_simp; rfl)); intro g3 hg_ w2 hbox hb_; have HG_ := Aside0.mk hg_; have HX_ := Aside0.mk hbox; have HY_ := Aside0.mk hb_; clear hg_ hbox hb_; have HGg3 := HG_; have HS1 := Aside0.mk (Std.and (Std.blk HX_.out) (Std.step HS.out HY_.out)); clear HS; have HS := HS1; clear HS1; clear HX_ HY_ HG_))
  clear HGg2 HGg3
  obtain ⟨i5, hi5, _, hsz5, _⟩ := info_parts info5
  have hcut := cut_cap (P := Try.prog) 29 5 .i64 Try.underlying29 hi5 B l.length cb ((l.length : Int) + 66) (by omega) (by omega)
  rw [show ((l.length : Int) + 66).toNat = l.length + 66 by omega] at hcut
  have hw66 : wrap64 ((l.length : Int) + 66) = (l.length : Int) + 66 := wrap64_in (by omega) (by omega)
  clear hi5 hsz5
  go_wp2_with (first | ((with_reducible refine gate_dst (N := 7) rfl ?_); refine ld_blk (d := (.struct _)) rfl 31 _ rfl (by rfl) (HS.out.now.2.1) hu31 rfl (by kernel_rfl) ?_) | ((with_reducible refine gate_dst (N := 8) rfl ?_); refine ld_blk (d := (.struct _)) rfl 31 _ rfl (by rfl) (HS.out.now.1) hu31 rfl (by kernel_rfl) ?_) | ((with_reducible refine gate_callee (f := 16) rfl ?_); (with_reducible refine gate_dst (N := 9) rfl ?_); refine goesQ 9 Try.func16 #[.agg #[.int .i64 n, .int .i64 k, .int .i64 i, .float .f64 r, .string s, .int .i64 k', .int .i64 i', .float .f64 r', .string s', .slice B l.length cb], .agg #[.int .i64 n, .int .i64 k, .int .i64 i, .float .f64 r, .string s, .int .i64 k', .int .i64 i', .float .f64 r', .string s', .slice A l.length c]] ?_; refine (colonnaderef14_Same.calls n k i r s k' i' r' s' B cb l n k i r s k' i' r' s' A c l true _ (C_left HS.out.now.2.2.1.2) (Nat.le_trans (Nat.le_add_right _ 66) HS.out.now.2.2.1.1) HS.out.now.2.2.2.1.2 HS.out.now.2.2.2.1.1 (same_self n k i r s k' i' r' s' l)).mono ?_; rintro e w_ ⟨rfl, hb_⟩; refine ⟨_, rfl, ?_⟩; have HS1 := Aside0.mk (Std.step HS.out hb_); clear HS; have HS := HS1; clear HS1; clear hb_) | ((with_reducible refine gate_dst (N := 12) rfl ?_); refine ld_fld rfl 29 _ rfl (.slice B l.length cb) (by rfl) (HS.out.now.2.1) (by rfl) hu29 rfl ?_) | ((with_reducible refine gate_dst (N := 14) rfl ?_); refine ld_fld rfl 29 _ rfl (.slice A l.length c) (by rfl) (HS.out.now.1) (by rfl) hu29 rfl ?_))
  clear hcut hw66
  go_loopw [6] (fun s6 wr => ∃ j : Nat, j ≤ 66 ∧ s6 = .int .i64 (j : Int) ∧ Std wr (fun W => W.heap[g3]? = some (.cells #[.int .i64 n, .int .i64 k, .int .i64 i, .float .f64 r, .string s, .int .i64 k', .int .i64 i', .float .f64 r', .string s', .slice A l.length c] 31 (0, 0)) ∧ (l.length + 66 ≤ cb ∧ Kd.C (Kd.int .u8) W B (l.length + 66) (l ++ mk66)) ∧ Below w.heap.size w W)) (fun i _ => 66 - (intOf i).toNat)
  case atStart => exact ⟨0, by omega, rfl, fun W hW => ⟨(HS.out W hW).1, (HS.out W hW).2.2.1, (HS.out W hW).2.2.2.2⟩⟩
  case round =>
    clear HS
    obtain ⟨j, hj, rfl, HS1⟩ := hrel
    have HS := Aside0.mk HS1
    clear HS1
    by_cases hlt : j < 66
    · have b1 : decide ((j : Int) < 66) = true := decide_eq_true (by omega)
      obtain ⟨ad, rfl, hx0⟩ := at_mark HS.out.now.2.1.2 j hlt
      have hw1 : wrap64 ((l.length : Int) + (j : Int)) = ((l.length + j : Nat) : Int) := by rw [wrap64_in (by omega) (by omega)]; omega
      have p1 : (0 : Int) ≤ ((l.length + j : Nat) : Int) := by omega
      have p2 : ((l.length + j : Nat) : Int) < ((l.length + 66 : Nat) : Int) := by omega
      have p3 : decide (l.length + j < l.length + 66) = true := decide_eq_true (by omega)
      have hwm : (wrap64 (150 + (j : Int))) % 256 = 150 + (j : Int) := by rw [wrap64_in (by omega) (by omega)]; omega
      have hbe : (150 + (j : Int) != 150 + (j : Int)) = false := bne_self_eq_false _
      go_wp2_with (first | ((with_reducible refine gate_dst (N := 24) rfl ?_); refine ld_fld rfl 29 _ rfl (.slice A l.length c) (by rfl) (HS.out.now.1) (by rfl) hu29 rfl ?_))
      go_roundw
      case rel => exact ⟨j + 1, by omega, by go_num, HS.out⟩
      case measure => simp [intOf]; omega
    · have b1 : decide ((j : Int) < 66) = false := decide_eq_false (by omega)
      go_wp2_with (fail)
      go_ret
      exact ⟨rfl, HS.out.now.2.2⟩
end Go.Proofs.Ythiidgmemoineaa.Pa
