/- The texts of AtomKleene, merged: part 37. -/
import Derived.Test.YtkedejphebfneaaQAtomKleene35
import Derived.Test.YtkedejphebfneaaQAtomKleene36
import Derived.Test.YtkedejphebfneaaQAtomKleene27
import Derived.Test.YtkedejphebfneaaQAtomKleene6
import Derived.Test.YtkedejphebfneaaQAtomKleene1
import Derived.Deep.DeepCutAuto
/- AtomKleene, its walk by hand: opposites, intervals and lists are put together by Kleene's truths. No conditions. -/
namespace Go.Proofs.Ytkedejphebfneaa.Pa
open Go.Proofs.Ytkedejphebfneaa.L Go.Proofs.Ytkedejphebfneaa.V Go.Proofs.Ytkedejphebfneaa.O Go.RowKit Go.Proofs.YtkedejphebfneaaW.PrintWords Go.Proofs.YtkedejphebfneaaW.PrintLast Go.Proofs.YtkedejphebfneaaW.PrintMore
set_option linter.unusedVariables false
set_option linter.unusedSimpArgs false
attribute [local go_sem] run_store_float cmp_feq cmp_fne cmp_flt cmp_fle cmp_fgt cmp_fge un_fneg equalIn_feq run_fop run_fint run_freal cmp_sgt
namespace Kw
section
variable {v c d : S28} {l : List S28} {W : World} {A7 A8 A0 : Option Addr} {c7 c8 c0 : Nat}
theorem test (hv : v.f2 < 18446744073709551616) (hc : c.f2 < 18446744073709551616) (mv : mV v = true) (op : Int) : Calls Try.prog 20 #[.agg #[.int .i64 1, .string ⟨#[99]⟩, .int .i64 op, .int .i64 c.f0, .int .i64 c.f1, .float .f64 c.f2, .string c.f3, .slice A7 0 c7, .slice A8 0 c8], .agg #[.int .i64 v.f0, .int .i64 v.f1, .float .f64 v.f2, .string v.f3]] W fun e w' => e = .returned (.int .i8 (tV op v c)) ∧ Below W.heap.size W w' := by
  obtain ⟨k, hk⟩ := (testV op hv hc mv ⟨#[99]⟩).ex
  exact atom_Test.calls k 1 ⟨#[99]⟩ op c.f0 c.f1 c.f2 c.f3 A7 c7 [] A8 c8 [] v.f0 v.f1 v.f2 v.f3 _ W (C_zero _ _ _) (Nat.zero_le _) (C_zero _ _ _) (Nat.zero_le _) hk
theorem testL (kind : Int) (hv : v.f2 < 18446744073709551616) (hl : okL l) (mv : mV v = true) (r : Int) (hr : testS kind 0 0 0 0 (⟨#[]⟩ : ByteArray) l v.f0 v.f1 v.f2 v.f3 = r) (hC : l.length ≤ c7 ∧ Kd.C k28 W A7 l.length l) : Calls Try.prog 20 #[.agg #[.int .i64 kind, .string ⟨#[99]⟩, .int .i64 0, .int .i64 0, .int .i64 0, .float .f64 0, .string ⟨#[]⟩, .slice A7 l.length c7, .slice A8 0 c8], .agg #[.int .i64 v.f0, .int .i64 v.f1, .float .f64 v.f2, .string v.f3]] W fun e w' => e = .returned (.int .i8 r) ∧ Below W.heap.size W w' := by
  subst hr
  obtain ⟨k, hk⟩ := (test_f kind ⟨#[99]⟩ 0 0 0 0 (⟨#[]⟩ : ByteArray) l [] v.f0 v.f1 v.f3 (by decide) hl hv).ex
  exact atom_Test.calls k kind ⟨#[99]⟩ 0 0 0 0 ⟨#[]⟩ A7 c7 l A8 c8 [] v.f0 v.f1 v.f2 v.f3 _ W hC.2 hC.1 (C_zero _ _ _) (Nat.zero_le _) hk
theorem opp (op : Int) (h : 1 ≤ op ∧ op ≤ 6) : Calls Try.prog 22 #[.agg #[.int .i64 1, .string ⟨#[99]⟩, .int .i64 op, .int .i64 c.f0, .int .i64 c.f1, .float .f64 c.f2, .string c.f3, .slice A7 0 c7, .slice A8 0 c8]] W fun e w' => ∃ B7 b7 B8 b8, e = .returned (.tuple #[.agg #[.int .i64 1, .string ⟨#[99]⟩, .int .i64 (oppS op), .int .i64 c.f0, .int .i64 c.f1, .float .f64 c.f2, .string c.f3, .slice B7 0 b7, .slice B8 0 b8], .bool true]) ∧ Below W.heap.size W w' := by
  refine (atom_Not.calls 1 ⟨#[99]⟩ op c.f0 c.f1 c.f2 c.f3 A7 c7 [] A8 c8 [] _ _ _ _ _ _ _ _ _ _ W (C_zero _ _ _) (Nat.zero_le _) (C_zero _ _ _) (Nat.zero_le _) (not_f ⟨#[99]⟩ op c.f0 c.f1 c.f2 c.f3 h)).mono ?_
  rintro e w' ⟨v7, v8, rfl, h7, h8, hb⟩
  obtain ⟨B7, b7, e7⟩ := Kd.R_slice h7
  obtain ⟨B8, b8, e8⟩ := Kd.R_slice h8
  subst e7
  subst e8
  exact ⟨B7, b7, B8, b8, rfl, hb⟩
theorem comp (op : Int) : Calls Try.prog 28 #[.int .i64 op, .agg #[.int .i64 c.f0, .int .i64 c.f1, .float .f64 c.f2, .string c.f3]] W fun e w' => ∃ B7 b7 B8 b8, e = .returned (.agg #[.int .i64 1, .string ⟨#[99]⟩, .int .i64 op, .int .i64 c.f0, .int .i64 c.f1, .float .f64 c.f2, .string c.f3, .slice B7 0 b7, .slice B8 0 b8]) ∧ Below W.heap.size W w' := by
  refine (colonnadelaw18_compared.calls op c.f0 c.f1 c.f2 c.f3 _ _ _ _ _ _ _ _ _ W (compared_f op c.f0 c.f1 c.f2 c.f3)).mono ?_
  rintro e w' ⟨v7, v8, rfl, h7, h8, hb⟩
  obtain ⟨B7, b7, e7⟩ := Kd.R_slice h7
  obtain ⟨B8, b8, e8⟩ := Kd.R_slice h8
  subst e7
  subst e8
  exact ⟨B7, b7, B8, b8, rfl, hb⟩
theorem chk (hc : c.f2 < 18446744073709551616) (mc : mV c = true) (k0 : c.f0 ≠ 0) (op : Int) (h : 1 ≤ op ∧ op ≤ 6) (hC : 1 ≤ c0 ∧ Kd.C k23 W A0 1 [(⟨⟨#[99]⟩, c.f0, true⟩ : S23)]) : Calls Try.prog 13 #[.slice A0 1 c0, .agg #[.int .i64 1, .string ⟨#[99]⟩, .int .i64 op, .int .i64 c.f0, .int .i64 c.f1, .float .f64 c.f2, .string c.f3, .slice A7 0 c7, .slice A8 0 c8]] W fun e w' => e = .returned (.int .i64 0) ∧ Below W.heap.size W w' := by
  obtain ⟨k, hk⟩ := (check_one hc mc k0 op h ⟨#[99]⟩ true).ex
  exact atom_Check.calls k A0 c0 [(⟨⟨#[99]⟩, c.f0, true⟩ : S23)] 1 ⟨#[99]⟩ op c.f0 c.f1 c.f2 c.f3 A7 c7 [] A8 c8 [] 0 W hC.2 hC.1 (C_zero _ _ _) (Nat.zero_le _) (C_zero _ _ _) (Nat.zero_le _) hk
theorem chkL {kind e : Int} {k : Nat} (h : atom_Check.f k [(⟨⟨#[99]⟩, c.f0, true⟩ : S23)] kind ⟨#[99]⟩ 0 0 0 0 (⟨#[]⟩ : ByteArray) l [] = some e) (hC : 1 ≤ c0 ∧ Kd.C k23 W A0 1 [(⟨⟨#[99]⟩, c.f0, true⟩ : S23)]) (hL : l.length ≤ c7 ∧ Kd.C k28 W A7 l.length l) : Calls Try.prog 13 #[.slice A0 1 c0, .agg #[.int .i64 kind, .string ⟨#[99]⟩, .int .i64 0, .int .i64 0, .int .i64 0, .float .f64 0, .string ⟨#[]⟩, .slice A7 l.length c7, .slice A8 0 c8]] W fun e_ w' => e_ = .returned (.int .i64 e) ∧ Below W.heap.size W w' :=
  atom_Check.calls k A0 c0 [(⟨⟨#[99]⟩, c.f0, true⟩ : S23)] kind ⟨#[99]⟩ 0 0 0 0 ⟨#[]⟩ A7 c7 l A8 c8 [] e W hC.2 hC.1 hL.2 hL.1 (C_zero _ _ _) (Nat.zero_le _) h
theorem endsT (op : Int) : Calls Try.prog 35 #[.int .i8 (tV op v c), .agg #[.int .i64 v.f0, .int .i64 v.f1, .float .f64 v.f2, .string v.f3]] W fun e w' => e = .returned (.bool true) ∧ Below W.heap.size W w' := colonnadelaw18_ends.calls _ v.f0 v.f1 v.f2 v.f3 true W (ends_f op v c)
theorem nott (t : Int) : Calls Try.prog 36 #[.int .i8 t] W fun e w' => e = .returned (.int .i8 (kNot t)) ∧ Below W.heap.size W w' := (value_Not.calls t _ W (knot_f t)).mono fun e w' ⟨a, b⟩ => ⟨a, b.below⟩
theorem andt {a b : Int} (ha : a = 0 ∨ a = 1 ∨ a = 2) (hb : b = 0 ∨ b = 1 ∨ b = 2) (hC : Kd.C (Kd.int .i8) W A0 2 [a, b]) (h2 : 2 ≤ c0) : Calls Try.prog 37 #[.slice A0 2 c0] W fun e w' => e = .returned (.int .i8 (kAnd a b)) ∧ Below W.heap.size W w' := by
  obtain ⟨k, hk⟩ := (and_f ha hb).ex
  exact (value_And.calls k A0 c0 [a, b] _ W hC h2 hk).mono fun e w' ⟨x, y⟩ => ⟨x, y.below⟩
theorem ort {a b : Int} (ha : a = 0 ∨ a = 1 ∨ a = 2) (hb : b = 0 ∨ b = 1 ∨ b = 2) (hC : Kd.C (Kd.int .i8) W A0 2 [a, b]) (h2 : 2 ≤ c0) : Calls Try.prog 38 #[.slice A0 2 c0] W fun e w' => e = .returned (.int .i8 (kOr a b)) ∧ Below W.heap.size W w' := by
  obtain ⟨k, hk⟩ := (or_k ha hb).ex
  exact (value_Or.calls k A0 c0 [a, b] _ W hC h2 hk).mono fun e w' ⟨x, y⟩ => ⟨x, y.below⟩
/-- How often Yes was said of the first operators. -/
theorem some_at {A : Option Addr} {k : Nat} (h : l.length ≤ k ∧ Kd.C k28 W A l.length l) {j : Nat} (hj : j < l.length) : ∃ ad, A = some ad := by
  obtain ⟨ad, e, _⟩ := at_T28 h.2 (j : Int) (by omega) (by omega)
  exact ⟨ad, e⟩
theorem elt {ad : Addr} {k : Nat} (h : l.length ≤ k ∧ Kd.C k28 W (some ad) l.length l) (j : Nat) (hj : j < l.length) : W.cell? (ad.add (j * 4)) = some (.int .i64 (rz l j).f0) ∧ W.cell? ⟨(ad.add (j * 4)).block, (ad.add (j * 4)).off + 1, none⟩ = some (.int .i64 (rz l j).f1) ∧ W.cell? ⟨(ad.add (j * 4)).block, (ad.add (j * 4)).off + 2, none⟩ = some (.float .f64 (rz l j).f2) ∧ W.cell? ⟨(ad.add (j * 4)).block, (ad.add (j * 4)).off + 3, none⟩ = some (.string (rz l j).f3) := by
  obtain ⟨ad', e, h0⟩ := at_T28 h.2 (j : Int) (by omega) (by omega)
  cases e
  simp only [Int.toNat_natCast] at h0
  exact h0
def yesN (v c : S28) : Nat → Int
  | 0 => 0
  | n + 1 => yesN v c n + yV (n + 1) v c
theorem yesN_rg (v c : S28) (n : Nat) : 0 ≤ yesN v c n ∧ yesN v c n ≤ n := by
  induction n with
  | zero => exact ⟨by simp [yesN], by simp [yesN]⟩
  | succ n ih =>
    have : 0 ≤ yV (n + 1) v c ∧ yV (n + 1) v c ≤ 1 := by unfold yV; split <;> omega
    unfold yesN
    omega
theorem yesN_one {v c : S28} (n : Nat) (h : tV ((n : Int) + 1) v c = 1) (ho : (n : Int) + 1 = 1 ∨ (n : Int) + 1 = 3 ∨ (n : Int) + 1 = 5) : yesN v c (n + 1) = yesN v c n + 1 := by
  rw [yesN, show yV ((n : Int) + 1) v c = 1 from if_pos ⟨h, ho⟩]
theorem yesN_nil {v c : S28} (n : Nat) (h : ¬ (tV ((n : Int) + 1) v c = 1 ∧ ((n : Int) + 1 = 1 ∨ (n : Int) + 1 = 3 ∨ (n : Int) + 1 = 5))) : yesN v c (n + 1) = yesN v c n := by
  rw [yesN, show yV ((n : Int) + 1) v c = 0 from if_neg h, Int.add_zero]
theorem yesN_six (v c : S28) : yesN v c 6 = if v.f0 = 0 then 0 else 1 := by
  rw [← yV_sum v c]
  simp [yesN]
/-- The list's truth up to a place. -/
theorem or_next (v : S28) (l : List S28) (j : Nat) (hlt : j < l.length) : kOr (orV v (anyV v (l.take j))) (tV 1 v (rz l j)) = orV v (anyV v (l.take (j + 1))) := by
  have ht : l.take (j + 1) = l.take j ++ [rz l j] := by
    rw [List.take_succ_eq_append_getElem hlt]
    simp [rz, rd_T28, List.getD_eq_getElem?_getD, List.getElem?_eq_getElem hlt]
  rw [ht]
  unfold anyV
  rw [List.any_append]
  unfold orV tV kOr
  by_cases h0 : v.f0 = 0
  · simp [h0]
  · have e : stS (cV v (rz l j)) 1 = (cV v (rz l j) == 0) := by simp [stS]
    rw [e]
    cases q : (l.take j).any (fun c => cV v c == 0) <;> cases q2 : (cV v (rz l j) == 0) <;> simp [h0, q2]
theorem orV_rg (v : S28) (b : Bool) : orV v b = 0 ∨ orV v b = 1 ∨ orV v b = 2 := by unfold orV; split; simp; split <;> simp
end
/-- What stands all through the walk. -/
def Q (w : World) (g4 g5 g6 g9 g10 g11 : Nat) (v c d : S28) (l : List S28) (A3 Ai Ab : Option Addr) (c3 ci cb : Nat) (W : World) : Prop :=
  W.heap[g11]? = some (.cells #[.int .i64 3, .string ⟨#[99]⟩, .int .i64 0, .int .i64 0, .int .i64 0, .float .f64 0, .string ⟨#[]⟩, .slice Ab 2 cb, .slice none 0 0] 32 (0, 0)) ∧ (2 ≤ cb ∧ Kd.C k28 W Ab 2 [c, d]) ∧ W.heap[g10]? = some (.cells #[.int .i64 2, .string ⟨#[99]⟩, .int .i64 0, .int .i64 0, .int .i64 0, .float .f64 0, .string ⟨#[]⟩, .slice Ai l.length ci, .slice none 0 0] 32 (0, 0)) ∧ (l.length ≤ ci ∧ Kd.C k28 W Ai l.length l) ∧ W.heap[g9]? = some (.cells #[.string ⟨#[99]⟩, .int .i64 c.f0, .bool true] 23 (0, 0)) ∧ W.heap[g6]? = some (.cells #[.int .i64 d.f0, .int .i64 d.f1, .float .f64 d.f2, .string d.f3] 28 (0, 0)) ∧ W.heap[g5]? = some (.cells #[.int .i64 c.f0, .int .i64 c.f1, .float .f64 c.f2, .string c.f3] 28 (0, 0)) ∧ W.heap[g4]? = some (.cells #[.int .i64 v.f0, .int .i64 v.f1, .float .f64 v.f2, .string v.f3] 28 (0, 0)) ∧ (l.length ≤ c3 ∧ Kd.C k28 W A3 l.length l) ∧ Below w.heap.size w W
end Kw
set_option maxHeartbeats 8000000 in
set_option maxRecDepth 100000 in
theorem Kw.walk (v c d : S28) (A3 : Option Addr) (c3 : Nat) (l : List S28) (w : World) (hC : Kd.C k28 w A3 l.length l) (hl : l.length ≤ c3) (hv : v.f2 < 18446744073709551616) (hc : c.f2 < 18446744073709551616) (hd : d.f2 < 18446744073709551616) (hll : okL l) (hcd : okL [c, d]) (hvl : Aside0 (colonnadelaw18_values.f l = some l)) :
    Calls Try.prog 11 #[.agg #[.int .i64 v.f0, .int .i64 v.f1, .float .f64 v.f2, .string v.f3], .agg #[.int .i64 c.f0, .int .i64 c.f1, .float .f64 c.f2, .string c.f3], .agg #[.int .i64 d.f0, .int .i64 d.f1, .float .f64 d.f2, .string d.f3], .slice A3 l.length c3] w fun e w' => e = .returned (.bool true) ∧ Below w.heap.size w w' := by
  have hu28 := Try.underlying28
  have hu23 := Try.underlying23
  have hu32 := Try.underlying32
  have hui := Try.underlying3
  have HS := Aside0.mk (Std.and (Std.rowC hl hC) (Std.bel (Below.refl w.heap.size w)))
  clear hC hl
  go_enter Try.func11, Try.ntmps11
  go_upto_region 1 with (first | ((with_reducible refine gate_dst (N := 4) rfl ?_); refine box_event ?hg (N := 4) ?hd (cs := #[.int .i64 v.f0, .int .i64 v.f1, .float .f64 v.f2, .string v.f3]) (t := 28) ?hr ?_; (case hd => rfl); (case hg => rfl); (case hr => first | (go_simp; done) | (go_simp; rfl)); intro g4 hg_ w1 hbox hb_; have HG_ := Aside0.mk hg_; have HX_ := Aside0.mk hbox; have HY_ := Aside0.mk hb_; clear hg_ hbox hb_; have HGg4 := HG_; have HS1 := Aside0.mk (Std.and (Std.blk HX_.out) (Std.step HS.out HY_.out)); clear HS; have HS := HS1; clear HS1; clear HX_ HY_ HG_) | ((with_reducible refine gate_dst (N := 5) rfl ?_); refine box_event ?hg (N := 5) ?hd (cs := #[.int .i64 c.f0, .int .i64 c.f1, .float .f64 c.f2, .string c.f3]) (t := 28) ?hr ?_; (case hd => rfl); (case hg => rfl); (case hr => first | (go_simp; done) | (go_simp; rfl)); intro g5 hg_ w2 hbox hb_; have HG_ := Aside0.mk hg_; have HX_ := Aside0.mk hbox; have HY_ := Aside0.mk hb_; clear hg_ hbox hb_; have HGg5 := HG_; have HS1 := Aside0.mk (Std.and (Std.blk HX_.out) (Std.step HS.out HY_.out)); clear HS; have HS := HS1; clear HS1; clear HX_ HY_ HG_) | ((with_reducible refine gate_dst (N := 6) rfl ?_); refine box_event ?hg (N := 6) ?hd (cs := #[.int .i64 d.f0, .int .i64 d.f1, .float .f64 d.f2, .string d.f3]) (t := 28) ?hr ?_; (case hd => rfl); (case hg => rfl); (case hr => first | (go_simp; done) | (go_simp; rfl)); intro g6 hg_ w3 hbox hb_; have HG_ := Aside0.mk hg_; have HX_ := Aside0.mk hbox; have HY_ := Aside0.mk hb_; clear hg_ hbox hb_; have HGg6 := HG_; have HS1 := Aside0.mk (Std.and (Std.blk HX_.out) (Std.step HS.out HY_.out)); clear HS; have HS := HS1; clear HS1; clear HX_ HY_ HG_))
  clear HGg4 HGg5 HGg6
  go_upto_region 3 with ((with_reducible refine gate_callee (f := 15) rfl ?_); (with_reducible refine gate_dst (N := 23) rfl ?_); refine goesL_ (some 23) rfl rfl Try.func15 (by kernel_rfl) rfl #[] rfl (by (try simp only [List.map_toArray, List.map_cons, List.map_nil]); first | done | rfl) ?_; refine (colonnadelaw18_known.calls 5 true _ rfl).mono ?_; rintro e w_ ⟨rfl, hb_⟩; refine ⟨_, rfl, ?_⟩; have HS1 := Aside0.mk (Std.step HS.out hb_); clear HS; have HS := HS1; clear HS1; clear hb_)
  go_upto_region 4 with (first | ((with_reducible refine gate_dst (N := 26) rfl ?_); refine ld_fld rfl 3 _ rfl (.int .i64 c.f0) (by rfl) (HS.out.now.2.1) (by rfl) hui rfl ?_) | ((with_reducible refine gate_dst (N := 9) rfl ?_); refine box_event ?hg (N := 9) ?hd (cs := #[.string ⟨#[]⟩, .int .i64 0, .bool false]) (t := 23) ?hr ?_; (case hd => rfl); (case hg => rfl); (case hr => first | (go_simp; done) | (go_simp; rfl)); intro g9 hg_ w4 hbox hb_; have HG_ := Aside0.mk hg_; have HX_ := Aside0.mk hbox; have HY_ := Aside0.mk hb_; clear hg_ hbox hb_) | ((with_reducible refine gate_store (p := 9) rfl ?_); refine st_blk rfl 23 _ _ rfl rfl #[.string ⟨#[99]⟩, .int .i64 c.f0, .bool true] (by rfl) (by rfl) HX_.out (by rfl) (by kernel_rfl) (by simp [Value.oneCell']) ?_; intro w5 hbox2 ho_; have hb2_ := Only.belowW ho_ HY_.out (Nat.le_of_eq HG_.out.symm); have HGg9 := HG_; clear HX_ HY_ HG_ ho_; have HS1 := Aside0.mk (Std.and (Std.blk hbox2) (Std.step HS.out hb2_)); clear HS; have HS := HS1; clear HS1; clear hb2_ hbox2))
  go_upto_region 5 with (first | ((with_reducible refine gate_callee (f := 33) rfl ?_); (with_reducible refine gate_dst (N := 29) rfl ?_); refine goesL_ (some 29) rfl rfl Try.func33 (by kernel_rfl) rfl #[.slice A3 l.length c3] rfl (by (try simp only [List.map_toArray, List.map_cons, List.map_nil]); first | done | rfl) ?_; refine (colonnadelaw18_values.calls A3 c3 l l _ HS.out.now.2.2.2.2.1.2 HS.out.now.2.2.2.2.1.1 hvl.out).mono ?_; rintro e w6 ⟨vi, rfl, ho_, hb_⟩; obtain ⟨Ai, ci, e_⟩ := Kd.R_slice ho_; subst e_; refine ⟨_, rfl, ?_⟩; have HS1 := Aside0.mk (Std.and (Std.rowR ho_ rfl) (Std.step HS.out hb_)); clear HS; have HS := HS1; clear HS1; clear hb_ ho_) | ((with_reducible refine gate_dst (N := 10) rfl ?_); refine box_event ?hg (N := 10) ?hd (cs := #[.int .i64 0, .string ⟨#[]⟩, .int .i64 0, .int .i64 0, .int .i64 0, .float .f64 0, .string ⟨#[]⟩, .slice none 0 0, .slice none 0 0]) (t := 32) ?hr ?_; (case hd => rfl); (case hg => rfl); (case hr => first | (go_simp; done) | (go_simp; rfl)); intro g10 hg_ w7 hbox hb_; have HG_ := Aside0.mk hg_; have HX_ := Aside0.mk hbox; have HY_ := Aside0.mk hb_; clear hg_ hbox hb_) | ((with_reducible refine gate_store (p := 10) rfl ?_); refine st_blk rfl 32 _ _ rfl rfl #[.int .i64 2, .string ⟨#[99]⟩, .int .i64 0, .int .i64 0, .int .i64 0, .float .f64 0, .string ⟨#[]⟩, .slice Ai l.length ci, .slice none 0 0] (by rfl) (by rfl) HX_.out (by rfl) (by kernel_rfl) (by simp [Value.oneCell']) ?_; intro w8 hbox2 ho_; have hb2_ := Only.belowW ho_ HY_.out (Nat.le_of_eq HG_.out.symm); have HGg10 := HG_; clear HX_ HY_ HG_ ho_; have HS1 := Aside0.mk (Std.and (Std.blk hbox2) (Std.step HS.out hb2_)); clear HS; have HS := HS1; clear HS1; clear hb2_ hbox2))
  go_upto_region 6 with (first | ((with_reducible refine gate_dst (N := 31) rfl ?_); refine ld_blk (d := (.struct _)) rfl 28 _ rfl (by rfl) (HS.out.now.2.2.2.2.1) hu28 rfl (by kernel_rfl) ?_) | ((with_reducible refine gate_dst (N := 32) rfl ?_); refine ld_blk (d := (.struct _)) rfl 28 _ rfl (by rfl) (HS.out.now.2.2.2.1) hu28 rfl (by kernel_rfl) ?_) | ((with_reducible refine gate_dst (N := 33) rfl ?_); refine Kd.R_lit k28 _ 28 ?hg (N := 33) ?hd (xs := ([c, d] : List S28)) (inner := [.int .i64 c.f0, .int .i64 c.f1, .float .f64 c.f2, .string c.f3, .int .i64 d.f0, .int .i64 d.f1, .float .f64 d.f2, .string d.f3]) (ok := fun _ => True) (okp := fun _ => True) ?hr ?hp (fun _ hk => hk) trivial (Below.refl _ _) (Nat.le_refl _) (by simp) ?_; (case hd => rfl); (case hg => rfl); (case hr => first | (go_simp; done) | (go_simp; rfl)); (case hp => exact (Reps.c4 (k28_mkM _ _ _ c) (Reps.c4 (k28_mkM _ _ _ d) (Reps.none _ _)))); intro v_ w_ ho_ hb_ hg_ hnew_; clear hg_ hnew_; obtain ⟨Ab, cb, ev_⟩ := Kd.R_slice ho_; replace ev_ : v_ = .slice Ab 2 cb := ev_; subst ev_; have HS1 := Aside0.mk (Std.and (Std.rowR ho_ rfl) (Std.step HS.out hb_)); clear HS; have HS := HS1; clear HS1; clear ho_ hb_) | ((with_reducible refine gate_dst (N := 11) rfl ?_); refine box_event ?hg (N := 11) ?hd (cs := #[.int .i64 0, .string ⟨#[]⟩, .int .i64 0, .int .i64 0, .int .i64 0, .float .f64 0, .string ⟨#[]⟩, .slice none 0 0, .slice none 0 0]) (t := 32) ?hr ?_; (case hd => rfl); (case hg => rfl); (case hr => first | (go_simp; done) | (go_simp; rfl)); intro g11 hg_ w9 hbox hb_; have HG_ := Aside0.mk hg_; have HX_ := Aside0.mk hbox; have HY_ := Aside0.mk hb_; clear hg_ hbox hb_) | ((with_reducible refine gate_store (p := 11) rfl ?_); refine st_blk rfl 32 _ _ rfl rfl #[.int .i64 3, .string ⟨#[99]⟩, .int .i64 0, .int .i64 0, .int .i64 0, .float .f64 0, .string ⟨#[]⟩, .slice Ab 2 cb, .slice none 0 0] (by rfl) (by rfl) HX_.out (by rfl) (by kernel_rfl) (by simp [Value.oneCell']) ?_; intro w10 hbox2 ho_; have hb2_ := Only.belowW ho_ HY_.out (Nat.le_of_eq HG_.out.symm); have HGg11 := HG_; clear HX_ HY_ HG_ ho_; have HS1 := Aside0.mk (Std.and (Std.blk hbox2) (Std.step HS.out hb2_)); clear HS; have HS := HS1; clear HS1; clear hb2_ hbox2))
  clear HGg9 HGg10 HGg11
  replace HS : Aside0 (Std w10 (Kw.Q w g4 g5 g6 g9 g10 g11 v c d l A3 Ai Ab c3 ci cb)) := HS
  simp only [Act.put, List.setIfInBounds_toArray, List.set_cons_succ, List.set_cons_zero]
  go_cut [62] (fun s62 wx => ∃ b : Bool, s62 = .bool b ∧ (b = false → mV v = true ∧ mV c = true ∧ c.f0 ≠ 0) ∧ Std wx (Kw.Q w g4 g5 g6 g9 g10 g11 v c d l A3 Ai Ab c3 ci cb))
  case first =>
    obtain ⟨bf, hf, mf⟩ := fits_f hv (⟨#[99]⟩ : ByteArray) c.f0
    obtain ⟨e1, h1, m1⟩ := check_in c.f0 (⟨#[99]⟩ : ByteArray) true l hll
    obtain ⟨e2, h2, m2⟩ := check_be c.f0 (⟨#[99]⟩ : ByteArray) true [c, d] rfl hcd
    obtain ⟨kf, hf⟩ := hf.ex
    obtain ⟨k1, h1⟩ := h1.ex
    obtain ⟨k2, h2⟩ := h2.ex
    have HF := Aside0.mk hf
    have H1 := Aside0.mk h1
    have H2 := Aside0.mk h2
    clear hf h1 h2
    have MF := Aside0.mk mf
    have M2 := Aside0.mk m2
    clear mf m1 m2
    by_cases k1_ : c.f0 = 1
    · have k1b : (c.f0 != 1) = false := bne_eq_false_iff_eq.mpr k1_
      have KK : Aside0 (c.f0 ≠ 0) := ⟨by omega⟩
      clear k1_
      cases bf with
      | false =>
        go_wp2_with (first | ((with_reducible refine gate_dst (N := 36) rfl ?_); refine ld_fld rfl 3 _ rfl (.int .i64 c.f0) (by rfl) (HS.out.now.2.2.2.2.2.2.1) (by rfl) hui rfl ?_) | ((with_reducible refine gate_dst (N := 44) rfl ?_); refine gate_guard (by rfl) ?_; refine ld_blk (d := (.struct _)) rfl 23 _ rfl (by rfl) (HS.out.now.2.2.2.2.1) hu23 rfl (by kernel_rfl) ?_) | ((with_reducible refine gate_dst (N := 45) rfl ?_); refine gate_guard (by rfl) ?_; refine ld_blk (d := (.struct _)) rfl 28 _ rfl (by rfl) (HS.out.now.2.2.2.2.2.2.2.1) hu28 rfl (by kernel_rfl) ?_) | ((with_reducible refine gate_callee (f := 34) rfl ?_); (with_reducible refine gate_dst (N := 46) rfl ?_); refine gate_guard (by rfl) ?_; refine goesL_ (some 46) rfl rfl Try.func34 (by kernel_rfl) rfl #[.agg #[.string ⟨#[99]⟩, .int .i64 c.f0, .bool true], .agg #[.int .i64 v.f0, .int .i64 v.f1, .float .f64 v.f2, .string v.f3]] rfl (by (try simp only [List.map_toArray, List.map_cons, List.map_nil]); first | done | rfl) ?_; refine (value_Fits.calls kf ⟨#[99]⟩ c.f0 true v.f0 v.f1 v.f2 v.f3 false _ HF.out).mono ?_; rintro e w_ ⟨rfl, hb_⟩; refine ⟨_, rfl, ?_⟩; have HS1 := Aside0.mk (Std.step HS.out hb_); clear HS; have HS := HS1; clear HS1; clear hb_))
        go_meet
        exact ⟨_, rfl, (fun h => by cases h), HS.out⟩
      | true =>
        by_cases q1 : e1 = 0
        rotate_left
        · have q1b : (e1 != 0) = true := bne_iff_ne.mpr q1
          clear q1
          go_wp2_with (first | ((with_reducible refine gate_dst (N := 36) rfl ?_); refine ld_fld rfl 3 _ rfl (.int .i64 c.f0) (by rfl) (HS.out.now.2.2.2.2.2.2.1) (by rfl) hui rfl ?_) | ((with_reducible refine gate_dst (N := 44) rfl ?_); refine gate_guard (by rfl) ?_; refine ld_blk (d := (.struct _)) rfl 23 _ rfl (by rfl) (HS.out.now.2.2.2.2.1) hu23 rfl (by kernel_rfl) ?_) | ((with_reducible refine gate_dst (N := 45) rfl ?_); refine gate_guard (by rfl) ?_; refine ld_blk (d := (.struct _)) rfl 28 _ rfl (by rfl) (HS.out.now.2.2.2.2.2.2.2.1) hu28 rfl (by kernel_rfl) ?_) | ((with_reducible refine gate_callee (f := 34) rfl ?_); (with_reducible refine gate_dst (N := 46) rfl ?_); refine gate_guard (by rfl) ?_; refine goesL_ (some 46) rfl rfl Try.func34 (by kernel_rfl) rfl #[.agg #[.string ⟨#[99]⟩, .int .i64 c.f0, .bool true], .agg #[.int .i64 v.f0, .int .i64 v.f1, .float .f64 v.f2, .string v.f3]] rfl (by (try simp only [List.map_toArray, List.map_cons, List.map_nil]); first | done | rfl) ?_; refine (value_Fits.calls kf ⟨#[99]⟩ c.f0 true v.f0 v.f1 v.f2 v.f3 true _ HF.out).mono ?_; rintro e w_ ⟨rfl, hb_⟩; refine ⟨_, rfl, ?_⟩; have HS1 := Aside0.mk (Std.step HS.out hb_); clear HS; have HS := HS1; clear HS1; clear hb_) | ((with_reducible refine gate_dst (N := 50) rfl ?_); refine gate_guard (by rfl) ?_; refine ld_blk (d := (.struct _)) rfl 23 _ rfl (by rfl) (HS.out.now.2.2.2.2.1) hu23 rfl (by kernel_rfl) ?_) | ((with_reducible refine gate_dst (N := 51) rfl ?_); refine gate_guard (by rfl) ?_; refine Kd.R_lit k23 _ 23 ?hg (N := 51) ?hd (xs := ([(⟨⟨#[99]⟩, c.f0, true⟩ : S23)] : List S23)) (inner := [.string ⟨#[99]⟩, .int .i64 c.f0, .bool true]) (ok := fun _ => True) (okp := fun _ => True) ?hr ?hp (fun _ hk => hk) trivial (Below.refl _ _) (Nat.le_refl _) (by simp) ?_; (case hd => rfl); (case hg => rfl); (case hr => first | (go_simp; done) | (go_simp; rfl)); (case hp => exact (Reps.c3 (k23_mkM _ _ _ (⟨⟨#[99]⟩, c.f0, true⟩ : S23)) (Reps.none _ _))); intro v_ w_ ho_ hb_ hg_ hnew_; clear hg_ hnew_; obtain ⟨Ax, cx, ev_⟩ := Kd.R_slice ho_; replace ev_ : v_ = .slice Ax 1 cx := ev_; subst ev_; have HS1 := Aside0.mk (Std.and (Std.rowR ho_ rfl) (Std.step HS.out hb_)); clear HS; have HS := HS1; clear HS1; clear ho_ hb_) | ((with_reducible refine gate_dst (N := 52) rfl ?_); refine gate_guard (by rfl) ?_; refine ld_blk (d := (.struct _)) rfl 32 _ rfl (by rfl) (HS.out.now.2.2.2.1) hu32 rfl (by kernel_rfl) ?_) | ((with_reducible refine gate_callee (f := 13) rfl ?_); (with_reducible refine gate_dst (N := 53) rfl ?_); refine gate_guard (by rfl) ?_; refine goesL_ (some 53) rfl rfl Try.func13 (by kernel_rfl) rfl #[.slice Ax 1 cx, .agg #[.int .i64 2, .string ⟨#[99]⟩, .int .i64 0, .int .i64 0, .int .i64 0, .float .f64 0, .string ⟨#[]⟩, .slice Ai l.length ci, .slice none 0 0]] rfl (by (try simp only [List.map_toArray, List.map_cons, List.map_nil]); first | done | rfl) ?_; refine (Kw.chkL H1.out HS.out.now.1 HS.out.now.2.2.2.2.1).mono ?_; rintro e w_ ⟨rfl, hb_⟩; refine ⟨_, rfl, ?_⟩; have HS1 := Aside0.mk (Std.step HS.out hb_); clear HS; have HS := HS1; clear HS1; clear hb_; have HS1 := Aside0.mk (Std.drop HS.out); clear HS; have HS := HS1; clear HS1))
          go_meet
          exact ⟨_, rfl, (fun h => by cases h), HS.out⟩
        subst q1
        by_cases q2 : e2 = 0
        rotate_left
        · have q2b : (e2 != 0) = true := bne_iff_ne.mpr q2
          clear q2
          go_wp2_with (first | ((with_reducible refine gate_dst (N := 36) rfl ?_); refine ld_fld rfl 3 _ rfl (.int .i64 c.f0) (by rfl) (HS.out.now.2.2.2.2.2.2.1) (by rfl) hui rfl ?_) | ((with_reducible refine gate_dst (N := 44) rfl ?_); refine gate_guard (by rfl) ?_; refine ld_blk (d := (.struct _)) rfl 23 _ rfl (by rfl) (HS.out.now.2.2.2.2.1) hu23 rfl (by kernel_rfl) ?_) | ((with_reducible refine gate_dst (N := 45) rfl ?_); refine gate_guard (by rfl) ?_; refine ld_blk (d := (.struct _)) rfl 28 _ rfl (by rfl) (HS.out.now.2.2.2.2.2.2.2.1) hu28 rfl (by kernel_rfl) ?_) | ((with_reducible refine gate_callee (f := 34) rfl ?_); (with_reducible refine gate_dst (N := 46) rfl ?_); refine gate_guard (by rfl) ?_; refine goesL_ (some 46) rfl rfl Try.func34 (by kernel_rfl) rfl #[.agg #[.string ⟨#[99]⟩, .int .i64 c.f0, .bool true], .agg #[.int .i64 v.f0, .int .i64 v.f1, .float .f64 v.f2, .string v.f3]] rfl (by (try simp only [List.map_toArray, List.map_cons, List.map_nil]); first | done | rfl) ?_; refine (value_Fits.calls kf ⟨#[99]⟩ c.f0 true v.f0 v.f1 v.f2 v.f3 true _ HF.out).mono ?_; rintro e w_ ⟨rfl, hb_⟩; refine ⟨_, rfl, ?_⟩; have HS1 := Aside0.mk (Std.step HS.out hb_); clear HS; have HS := HS1; clear HS1; clear hb_) | ((with_reducible refine gate_dst (N := 50) rfl ?_); refine gate_guard (by rfl) ?_; refine ld_blk (d := (.struct _)) rfl 23 _ rfl (by rfl) (HS.out.now.2.2.2.2.1) hu23 rfl (by kernel_rfl) ?_) | ((with_reducible refine gate_dst (N := 51) rfl ?_); refine gate_guard (by rfl) ?_; refine Kd.R_lit k23 _ 23 ?hg (N := 51) ?hd (xs := ([(⟨⟨#[99]⟩, c.f0, true⟩ : S23)] : List S23)) (inner := [.string ⟨#[99]⟩, .int .i64 c.f0, .bool true]) (ok := fun _ => True) (okp := fun _ => True) ?hr ?hp (fun _ hk => hk) trivial (Below.refl _ _) (Nat.le_refl _) (by simp) ?_; (case hd => rfl); (case hg => rfl); (case hr => first | (go_simp; done) | (go_simp; rfl)); (case hp => exact (Reps.c3 (k23_mkM _ _ _ (⟨⟨#[99]⟩, c.f0, true⟩ : S23)) (Reps.none _ _))); intro v_ w_ ho_ hb_ hg_ hnew_; clear hg_ hnew_; obtain ⟨Ax, cx, ev_⟩ := Kd.R_slice ho_; replace ev_ : v_ = .slice Ax 1 cx := ev_; subst ev_; have HS1 := Aside0.mk (Std.and (Std.rowR ho_ rfl) (Std.step HS.out hb_)); clear HS; have HS := HS1; clear HS1; clear ho_ hb_) | ((with_reducible refine gate_dst (N := 52) rfl ?_); refine gate_guard (by rfl) ?_; refine ld_blk (d := (.struct _)) rfl 32 _ rfl (by rfl) (HS.out.now.2.2.2.1) hu32 rfl (by kernel_rfl) ?_) | ((with_reducible refine gate_callee (f := 13) rfl ?_); (with_reducible refine gate_dst (N := 53) rfl ?_); refine gate_guard (by rfl) ?_; refine goesL_ (some 53) rfl rfl Try.func13 (by kernel_rfl) rfl #[.slice Ax 1 cx, .agg #[.int .i64 2, .string ⟨#[99]⟩, .int .i64 0, .int .i64 0, .int .i64 0, .float .f64 0, .string ⟨#[]⟩, .slice Ai l.length ci, .slice none 0 0]] rfl (by (try simp only [List.map_toArray, List.map_cons, List.map_nil]); first | done | rfl) ?_; refine (Kw.chkL H1.out HS.out.now.1 HS.out.now.2.2.2.2.1).mono ?_; rintro e w_ ⟨rfl, hb_⟩; refine ⟨_, rfl, ?_⟩; have HS1 := Aside0.mk (Std.step HS.out hb_); clear HS; have HS := HS1; clear HS1; clear hb_; have HS1 := Aside0.mk (Std.drop HS.out); clear HS; have HS := HS1; clear HS1) | ((with_reducible refine gate_dst (N := 57) rfl ?_); refine gate_guard (by rfl) ?_; refine ld_blk (d := (.struct _)) rfl 23 _ rfl (by rfl) (HS.out.now.2.2.2.2.1) hu23 rfl (by kernel_rfl) ?_) | ((with_reducible refine gate_dst (N := 58) rfl ?_); refine gate_guard (by rfl) ?_; refine Kd.R_lit k23 _ 23 ?hg (N := 58) ?hd (xs := ([(⟨⟨#[99]⟩, c.f0, true⟩ : S23)] : List S23)) (inner := [.string ⟨#[99]⟩, .int .i64 c.f0, .bool true]) (ok := fun _ => True) (okp := fun _ => True) ?hr ?hp (fun _ hk => hk) trivial (Below.refl _ _) (Nat.le_refl _) (by simp) ?_; (case hd => rfl); (case hg => rfl); (case hr => first | (go_simp; done) | (go_simp; rfl)); (case hp => exact (Reps.c3 (k23_mkM _ _ _ (⟨⟨#[99]⟩, c.f0, true⟩ : S23)) (Reps.none _ _))); intro v_ w_ ho_ hb_ hg_ hnew_; clear hg_ hnew_; obtain ⟨Ay, cy, ev_⟩ := Kd.R_slice ho_; replace ev_ : v_ = .slice Ay 1 cy := ev_; subst ev_; have HS1 := Aside0.mk (Std.and (Std.rowR ho_ rfl) (Std.step HS.out hb_)); clear HS; have HS := HS1; clear HS1; clear ho_ hb_) | ((with_reducible refine gate_dst (N := 59) rfl ?_); refine gate_guard (by rfl) ?_; refine ld_blk (d := (.struct _)) rfl 32 _ rfl (by rfl) (HS.out.now.2.1) hu32 rfl (by kernel_rfl) ?_) | ((with_reducible refine gate_callee (f := 13) rfl ?_); (with_reducible refine gate_dst (N := 60) rfl ?_); refine gate_guard (by rfl) ?_; refine goesL_ (some 60) rfl rfl Try.func13 (by kernel_rfl) rfl #[.slice Ay 1 cy, .agg #[.int .i64 3, .string ⟨#[99]⟩, .int .i64 0, .int .i64 0, .int .i64 0, .float .f64 0, .string ⟨#[]⟩, .slice Ab 2 cb, .slice none 0 0]] rfl (by (try simp only [List.map_toArray, List.map_cons, List.map_nil]); first | done | rfl) ?_; refine (Kw.chkL (l := [c, d]) H2.out HS.out.now.1 HS.out.now.2.2.1).mono ?_; rintro e w_ ⟨rfl, hb_⟩; refine ⟨_, rfl, ?_⟩; have HS1 := Aside0.mk (Std.step HS.out hb_); clear HS; have HS := HS1; clear HS1; clear hb_; have HS1 := Aside0.mk (Std.drop HS.out); clear HS; have HS := HS1; clear HS1))
          go_meet
          exact ⟨_, rfl, (fun h => by cases h), HS.out⟩
        subst q2
        go_wp2_with (first | ((with_reducible refine gate_dst (N := 36) rfl ?_); refine ld_fld rfl 3 _ rfl (.int .i64 c.f0) (by rfl) (HS.out.now.2.2.2.2.2.2.1) (by rfl) hui rfl ?_) | ((with_reducible refine gate_dst (N := 44) rfl ?_); refine gate_guard (by rfl) ?_; refine ld_blk (d := (.struct _)) rfl 23 _ rfl (by rfl) (HS.out.now.2.2.2.2.1) hu23 rfl (by kernel_rfl) ?_) | ((with_reducible refine gate_dst (N := 45) rfl ?_); refine gate_guard (by rfl) ?_; refine ld_blk (d := (.struct _)) rfl 28 _ rfl (by rfl) (HS.out.now.2.2.2.2.2.2.2.1) hu28 rfl (by kernel_rfl) ?_) | ((with_reducible refine gate_callee (f := 34) rfl ?_); (with_reducible refine gate_dst (N := 46) rfl ?_); refine gate_guard (by rfl) ?_; refine goesL_ (some 46) rfl rfl Try.func34 (by kernel_rfl) rfl #[.agg #[.string ⟨#[99]⟩, .int .i64 c.f0, .bool true], .agg #[.int .i64 v.f0, .int .i64 v.f1, .float .f64 v.f2, .string v.f3]] rfl (by (try simp only [List.map_toArray, List.map_cons, List.map_nil]); first | done | rfl) ?_; refine (value_Fits.calls kf ⟨#[99]⟩ c.f0 true v.f0 v.f1 v.f2 v.f3 true _ HF.out).mono ?_; rintro e w_ ⟨rfl, hb_⟩; refine ⟨_, rfl, ?_⟩; have HS1 := Aside0.mk (Std.step HS.out hb_); clear HS; have HS := HS1; clear HS1; clear hb_) | ((with_reducible refine gate_dst (N := 50) rfl ?_); refine gate_guard (by rfl) ?_; refine ld_blk (d := (.struct _)) rfl 23 _ rfl (by rfl) (HS.out.now.2.2.2.2.1) hu23 rfl (by kernel_rfl) ?_) | ((with_reducible refine gate_dst (N := 51) rfl ?_); refine gate_guard (by rfl) ?_; refine Kd.R_lit k23 _ 23 ?hg (N := 51) ?hd (xs := ([(⟨⟨#[99]⟩, c.f0, true⟩ : S23)] : List S23)) (inner := [.string ⟨#[99]⟩, .int .i64 c.f0, .bool true]) (ok := fun _ => True) (okp := fun _ => True) ?hr ?hp (fun _ hk => hk) trivial (Below.refl _ _) (Nat.le_refl _) (by simp) ?_; (case hd => rfl); (case hg => rfl); (case hr => first | (go_simp; done) | (go_simp; rfl)); (case hp => exact (Reps.c3 (k23_mkM _ _ _ (⟨⟨#[99]⟩, c.f0, true⟩ : S23)) (Reps.none _ _))); intro v_ w_ ho_ hb_ hg_ hnew_; clear hg_ hnew_; obtain ⟨Ax, cx, ev_⟩ := Kd.R_slice ho_; replace ev_ : v_ = .slice Ax 1 cx := ev_; subst ev_; have HS1 := Aside0.mk (Std.and (Std.rowR ho_ rfl) (Std.step HS.out hb_)); clear HS; have HS := HS1; clear HS1; clear ho_ hb_) | ((with_reducible refine gate_dst (N := 52) rfl ?_); refine gate_guard (by rfl) ?_; refine ld_blk (d := (.struct _)) rfl 32 _ rfl (by rfl) (HS.out.now.2.2.2.1) hu32 rfl (by kernel_rfl) ?_) | ((with_reducible refine gate_callee (f := 13) rfl ?_); (with_reducible refine gate_dst (N := 53) rfl ?_); refine gate_guard (by rfl) ?_; refine goesL_ (some 53) rfl rfl Try.func13 (by kernel_rfl) rfl #[.slice Ax 1 cx, .agg #[.int .i64 2, .string ⟨#[99]⟩, .int .i64 0, .int .i64 0, .int .i64 0, .float .f64 0, .string ⟨#[]⟩, .slice Ai l.length ci, .slice none 0 0]] rfl (by (try simp only [List.map_toArray, List.map_cons, List.map_nil]); first | done | rfl) ?_; refine (Kw.chkL H1.out HS.out.now.1 HS.out.now.2.2.2.2.1).mono ?_; rintro e w_ ⟨rfl, hb_⟩; refine ⟨_, rfl, ?_⟩; have HS1 := Aside0.mk (Std.step HS.out hb_); clear HS; have HS := HS1; clear HS1; clear hb_; have HS1 := Aside0.mk (Std.drop HS.out); clear HS; have HS := HS1; clear HS1) | ((with_reducible refine gate_dst (N := 57) rfl ?_); refine gate_guard (by rfl) ?_; refine ld_blk (d := (.struct _)) rfl 23 _ rfl (by rfl) (HS.out.now.2.2.2.2.1) hu23 rfl (by kernel_rfl) ?_) | ((with_reducible refine gate_dst (N := 58) rfl ?_); refine gate_guard (by rfl) ?_; refine Kd.R_lit k23 _ 23 ?hg (N := 58) ?hd (xs := ([(⟨⟨#[99]⟩, c.f0, true⟩ : S23)] : List S23)) (inner := [.string ⟨#[99]⟩, .int .i64 c.f0, .bool true]) (ok := fun _ => True) (okp := fun _ => True) ?hr ?hp (fun _ hk => hk) trivial (Below.refl _ _) (Nat.le_refl _) (by simp) ?_; (case hd => rfl); (case hg => rfl); (case hr => first | (go_simp; done) | (go_simp; rfl)); (case hp => exact (Reps.c3 (k23_mkM _ _ _ (⟨⟨#[99]⟩, c.f0, true⟩ : S23)) (Reps.none _ _))); intro v_ w_ ho_ hb_ hg_ hnew_; clear hg_ hnew_; obtain ⟨Ay, cy, ev_⟩ := Kd.R_slice ho_; replace ev_ : v_ = .slice Ay 1 cy := ev_; subst ev_; have HS1 := Aside0.mk (Std.and (Std.rowR ho_ rfl) (Std.step HS.out hb_)); clear HS; have HS := HS1; clear HS1; clear ho_ hb_) | ((with_reducible refine gate_dst (N := 59) rfl ?_); refine gate_guard (by rfl) ?_; refine ld_blk (d := (.struct _)) rfl 32 _ rfl (by rfl) (HS.out.now.2.1) hu32 rfl (by kernel_rfl) ?_) | ((with_reducible refine gate_callee (f := 13) rfl ?_); (with_reducible refine gate_dst (N := 60) rfl ?_); refine gate_guard (by rfl) ?_; refine goesL_ (some 60) rfl rfl Try.func13 (by kernel_rfl) rfl #[.slice Ay 1 cy, .agg #[.int .i64 3, .string ⟨#[99]⟩, .int .i64 0, .int .i64 0, .int .i64 0, .float .f64 0, .string ⟨#[]⟩, .slice Ab 2 cb, .slice none 0 0]] rfl (by (try simp only [List.map_toArray, List.map_cons, List.map_nil]); first | done | rfl) ?_; refine (Kw.chkL (l := [c, d]) H2.out HS.out.now.1 HS.out.now.2.2.1).mono ?_; rintro e w_ ⟨rfl, hb_⟩; refine ⟨_, rfl, ?_⟩; have HS1 := Aside0.mk (Std.step HS.out hb_); clear HS; have HS := HS1; clear HS1; clear hb_; have HS1 := Aside0.mk (Std.drop HS.out); clear HS; have HS := HS1; clear HS1))
        go_meet
        exact ⟨_, rfl, (fun _ => ⟨MF.out (by simp), (M2.out (by simp) c (by simp)).1, KK.out⟩), HS.out⟩
    have k1b : (c.f0 != 1) = true := bne_iff_ne.mpr k1_
    by_cases k2_ : c.f0 = 2
    · have k2b : (c.f0 != 2) = false := bne_eq_false_iff_eq.mpr k2_
      have KK : Aside0 (c.f0 ≠ 0) := ⟨by omega⟩
      clear k1_ k2_
      cases bf with
      | false =>
        go_wp2_with (first | ((with_reducible refine gate_dst (N := 36) rfl ?_); refine ld_fld rfl 3 _ rfl (.int .i64 c.f0) (by rfl) (HS.out.now.2.2.2.2.2.2.1) (by rfl) hui rfl ?_) | ((with_reducible refine gate_dst (N := 40) rfl ?_); refine gate_guard (by rfl) ?_; refine ld_fld rfl 3 _ rfl (.int .i64 c.f0) (by rfl) (HS.out.now.2.2.2.2.2.2.1) (by rfl) hui rfl ?_) | ((with_reducible refine gate_dst (N := 44) rfl ?_); refine gate_guard (by rfl) ?_; refine ld_blk (d := (.struct _)) rfl 23 _ rfl (by rfl) (HS.out.now.2.2.2.2.1) hu23 rfl (by kernel_rfl) ?_) | ((with_reducible refine gate_dst (N := 45) rfl ?_); refine gate_guard (by rfl) ?_; refine ld_blk (d := (.struct _)) rfl 28 _ rfl (by rfl) (HS.out.now.2.2.2.2.2.2.2.1) hu28 rfl (by kernel_rfl) ?_) | ((with_reducible refine gate_callee (f := 34) rfl ?_); (with_reducible refine gate_dst (N := 46) rfl ?_); refine gate_guard (by rfl) ?_; refine goesL_ (some 46) rfl rfl Try.func34 (by kernel_rfl) rfl #[.agg #[.string ⟨#[99]⟩, .int .i64 c.f0, .bool true], .agg #[.int .i64 v.f0, .int .i64 v.f1, .float .f64 v.f2, .string v.f3]] rfl (by (try simp only [List.map_toArray, List.map_cons, List.map_nil]); first | done | rfl) ?_; refine (value_Fits.calls kf ⟨#[99]⟩ c.f0 true v.f0 v.f1 v.f2 v.f3 false _ HF.out).mono ?_; rintro e w_ ⟨rfl, hb_⟩; refine ⟨_, rfl, ?_⟩; have HS1 := Aside0.mk (Std.step HS.out hb_); clear HS; have HS := HS1; clear HS1; clear hb_))
        go_meet
        exact ⟨_, rfl, (fun h => by cases h), HS.out⟩
      | true =>
        by_cases q1 : e1 = 0
        rotate_left
        · have q1b : (e1 != 0) = true := bne_iff_ne.mpr q1
          clear q1
          go_wp2_with (first | ((with_reducible refine gate_dst (N := 36) rfl ?_); refine ld_fld rfl 3 _ rfl (.int .i64 c.f0) (by rfl) (HS.out.now.2.2.2.2.2.2.1) (by rfl) hui rfl ?_) | ((with_reducible refine gate_dst (N := 40) rfl ?_); refine gate_guard (by rfl) ?_; refine ld_fld rfl 3 _ rfl (.int .i64 c.f0) (by rfl) (HS.out.now.2.2.2.2.2.2.1) (by rfl) hui rfl ?_) | ((with_reducible refine gate_dst (N := 44) rfl ?_); refine gate_guard (by rfl) ?_; refine ld_blk (d := (.struct _)) rfl 23 _ rfl (by rfl) (HS.out.now.2.2.2.2.1) hu23 rfl (by kernel_rfl) ?_) | ((with_reducible refine gate_dst (N := 45) rfl ?_); refine gate_guard (by rfl) ?_; refine ld_blk (d := (.struct _)) rfl 28 _ rfl (by rfl) (HS.out.now.2.2.2.2.2.2.2.1) hu28 rfl (by kernel_rfl) ?_) | ((with_reducible refine gate_callee (f := 34) rfl ?_); (with_reducible refine gate_dst (N := 46) rfl ?_); refine gate_guard (by rfl) ?_; refine goesL_ (some 46) rfl rfl Try.func34 (by kernel_rfl) rfl #[.agg #[.string ⟨#[99]⟩, .int .i64 c.f0, .bool true], .agg #[.int .i64 v.f0, .int .i64 v.f1, .float .f64 v.f2, .string v.f3]] rfl (by (try simp only [List.map_toArray, List.map_cons, List.map_nil]); first | done | rfl) ?_; refine (value_Fits.calls kf ⟨#[99]⟩ c.f0 true v.f0 v.f1 v.f2 v.f3 true _ HF.out).mono ?_; rintro e w_ ⟨rfl, hb_⟩; refine ⟨_, rfl, ?_⟩; have HS1 := Aside0.mk (Std.step HS.out hb_); clear HS; have HS := HS1; clear HS1; clear hb_) | ((with_reducible refine gate_dst (N := 50) rfl ?_); refine gate_guard (by rfl) ?_; refine ld_blk (d := (.struct _)) rfl 23 _ rfl (by rfl) (HS.out.now.2.2.2.2.1) hu23 rfl (by kernel_rfl) ?_) | ((with_reducible refine gate_dst (N := 51) rfl ?_); refine gate_guard (by rfl) ?_; refine Kd.R_lit k23 _ 23 ?hg (N := 51) ?hd (xs := ([(⟨⟨#[99]⟩, c.f0, true⟩ : S23)] : List S23)) (inner := [.string ⟨#[99]⟩, .int .i64 c.f0, .bool true]) (ok := fun _ => True) (okp := fun _ => True) ?hr ?hp (fun _ hk => hk) trivial (Below.refl _ _) (Nat.le_refl _) (by simp) ?_; (case hd => rfl); (case hg => rfl); (case hr => first | (go_simp; done) | (go_simp; rfl)); (case hp => exact (Reps.c3 (k23_mkM _ _ _ (⟨⟨#[99]⟩, c.f0, true⟩ : S23)) (Reps.none _ _))); intro v_ w_ ho_ hb_ hg_ hnew_; clear hg_ hnew_; obtain ⟨Ax, cx, ev_⟩ := Kd.R_slice ho_; replace ev_ : v_ = .slice Ax 1 cx := ev_; subst ev_; have HS1 := Aside0.mk (Std.and (Std.rowR ho_ rfl) (Std.step HS.out hb_)); clear HS; have HS := HS1; clear HS1; clear ho_ hb_) | ((with_reducible refine gate_dst (N := 52) rfl ?_); refine gate_guard (by rfl) ?_; refine ld_blk (d := (.struct _)) rfl 32 _ rfl (by rfl) (HS.out.now.2.2.2.1) hu32 rfl (by kernel_rfl) ?_) | ((with_reducible refine gate_callee (f := 13) rfl ?_); (with_reducible refine gate_dst (N := 53) rfl ?_); refine gate_guard (by rfl) ?_; refine goesL_ (some 53) rfl rfl Try.func13 (by kernel_rfl) rfl #[.slice Ax 1 cx, .agg #[.int .i64 2, .string ⟨#[99]⟩, .int .i64 0, .int .i64 0, .int .i64 0, .float .f64 0, .string ⟨#[]⟩, .slice Ai l.length ci, .slice none 0 0]] rfl (by (try simp only [List.map_toArray, List.map_cons, List.map_nil]); first | done | rfl) ?_; refine (Kw.chkL H1.out HS.out.now.1 HS.out.now.2.2.2.2.1).mono ?_; rintro e w_ ⟨rfl, hb_⟩; refine ⟨_, rfl, ?_⟩; have HS1 := Aside0.mk (Std.step HS.out hb_); clear HS; have HS := HS1; clear HS1; clear hb_; have HS1 := Aside0.mk (Std.drop HS.out); clear HS; have HS := HS1; clear HS1))
          go_meet
          exact ⟨_, rfl, (fun h => by cases h), HS.out⟩
        subst q1
        by_cases q2 : e2 = 0
        rotate_left
        · have q2b : (e2 != 0) = true := bne_iff_ne.mpr q2
          clear q2
          go_wp2_with (first | ((with_reducible refine gate_dst (N := 36) rfl ?_); refine ld_fld rfl 3 _ rfl (.int .i64 c.f0) (by rfl) (HS.out.now.2.2.2.2.2.2.1) (by rfl) hui rfl ?_) | ((with_reducible refine gate_dst (N := 40) rfl ?_); refine gate_guard (by rfl) ?_; refine ld_fld rfl 3 _ rfl (.int .i64 c.f0) (by rfl) (HS.out.now.2.2.2.2.2.2.1) (by rfl) hui rfl ?_) | ((with_reducible refine gate_dst (N := 44) rfl ?_); refine gate_guard (by rfl) ?_; refine ld_blk (d := (.struct _)) rfl 23 _ rfl (by rfl) (HS.out.now.2.2.2.2.1) hu23 rfl (by kernel_rfl) ?_) | ((with_reducible refine gate_dst (N := 45) rfl ?_); refine gate_guard (by rfl) ?_; refine ld_blk (d := (.struct _)) rfl 28 _ rfl (by rfl) (HS.out.now.2.2.2.2.2.2.2.1) hu28 rfl (by kernel_rfl) ?_) | ((with_reducible refine gate_callee (f := 34) rfl ?_); (with_reducible refine gate_dst (N := 46) rfl ?_); refine gate_guard (by rfl) ?_; refine goesL_ (some 46) rfl rfl Try.func34 (by kernel_rfl) rfl #[.agg #[.string ⟨#[99]⟩, .int .i64 c.f0, .bool true], .agg #[.int .i64 v.f0, .int .i64 v.f1, .float .f64 v.f2, .string v.f3]] rfl (by (try simp only [List.map_toArray, List.map_cons, List.map_nil]); first | done | rfl) ?_; refine (value_Fits.calls kf ⟨#[99]⟩ c.f0 true v.f0 v.f1 v.f2 v.f3 true _ HF.out).mono ?_; rintro e w_ ⟨rfl, hb_⟩; refine ⟨_, rfl, ?_⟩; have HS1 := Aside0.mk (Std.step HS.out hb_); clear HS; have HS := HS1; clear HS1; clear hb_) | ((with_reducible refine gate_dst (N := 50) rfl ?_); refine gate_guard (by rfl) ?_; refine ld_blk (d := (.struct _)) rfl 23 _ rfl (by rfl) (HS.out.now.2.2.2.2.1) hu23 rfl (by kernel_rfl) ?_) | ((with_reducible refine gate_dst (N := 51) rfl ?_); refine gate_guard (by rfl) ?_; refine Kd.R_lit k23 _ 23 ?hg (N := 51) ?hd (xs := ([(⟨⟨#[99]⟩, c.f0, true⟩ : S23)] : List S23)) (inner := [.string ⟨#[99]⟩, .int .i64 c.f0, .bool true]) (ok := fun _ => True) (okp := fun _ => True) ?hr ?hp (fun _ hk => hk) trivial (Below.refl _ _) (Nat.le_refl _) (by simp) ?_; (case hd => rfl); (case hg => rfl); (case hr => first | (go_simp; done) | (go_simp; rfl)); (case hp => exact (Reps.c3 (k23_mkM _ _ _ (⟨⟨#[99]⟩, c.f0, true⟩ : S23)) (Reps.none _ _))); intro v_ w_ ho_ hb_ hg_ hnew_; clear hg_ hnew_; obtain ⟨Ax, cx, ev_⟩ := Kd.R_slice ho_; replace ev_ : v_ = .slice Ax 1 cx := ev_; subst ev_; have HS1 := Aside0.mk (Std.and (Std.rowR ho_ rfl) (Std.step HS.out hb_)); clear HS; have HS := HS1; clear HS1; clear ho_ hb_) | ((with_reducible refine gate_dst (N := 52) rfl ?_); refine gate_guard (by rfl) ?_; refine ld_blk (d := (.struct _)) rfl 32 _ rfl (by rfl) (HS.out.now.2.2.2.1) hu32 rfl (by kernel_rfl) ?_) | ((with_reducible refine gate_callee (f := 13) rfl ?_); (with_reducible refine gate_dst (N := 53) rfl ?_); refine gate_guard (by rfl) ?_; refine goesL_ (some 53) rfl rfl Try.func13 (by kernel_rfl) rfl #[.slice Ax 1 cx, .agg #[.int .i64 2, .string ⟨#[99]⟩, .int .i64 0, .int .i64 0, .int .i64 0, .float .f64 0, .string ⟨#[]⟩, .slice Ai l.length ci, .slice none 0 0]] rfl (by (try simp only [List.map_toArray, List.map_cons, List.map_nil]); first | done | rfl) ?_; refine (Kw.chkL H1.out HS.out.now.1 HS.out.now.2.2.2.2.1).mono ?_; rintro e w_ ⟨rfl, hb_⟩; refine ⟨_, rfl, ?_⟩; have HS1 := Aside0.mk (Std.step HS.out hb_); clear HS; have HS := HS1; clear HS1; clear hb_; have HS1 := Aside0.mk (Std.drop HS.out); clear HS; have HS := HS1; clear HS1) | ((with_reducible refine gate_dst (N := 57) rfl ?_); refine gate_guard (by rfl) ?_; refine ld_blk (d := (.struct _)) rfl 23 _ rfl (by rfl) (HS.out.now.2.2.2.2.1) hu23 rfl (by kernel_rfl) ?_) | ((with_reducible refine gate_dst (N := 58) rfl ?_); refine gate_guard (by rfl) ?_; refine Kd.R_lit k23 _ 23 ?hg (N := 58) ?hd (xs := ([(⟨⟨#[99]⟩, c.f0, true⟩ : S23)] : List S23)) (inner := [.string ⟨#[99]⟩, .int .i64 c.f0, .bool true]) (ok := fun _ => True) (okp := fun _ => True) ?hr ?hp (fun _ hk => hk) trivial (Below.refl _ _) (Nat.le_refl _) (by simp) ?_; (case hd => rfl); (case hg => rfl); (case hr => first | (go_simp; done) | (go_simp; rfl)); (case hp => exact (Reps.c3 (k23_mkM _ _ _ (⟨⟨#[99]⟩, c.f0, true⟩ : S23)) (Reps.none _ _))); intro v_ w_ ho_ hb_ hg_ hnew_; clear hg_ hnew_; obtain ⟨Ay, cy, ev_⟩ := Kd.R_slice ho_; replace ev_ : v_ = .slice Ay 1 cy := ev_; subst ev_; have HS1 := Aside0.mk (Std.and (Std.rowR ho_ rfl) (Std.step HS.out hb_)); clear HS; have HS := HS1; clear HS1; clear ho_ hb_) | ((with_reducible refine gate_dst (N := 59) rfl ?_); refine gate_guard (by rfl) ?_; refine ld_blk (d := (.struct _)) rfl 32 _ rfl (by rfl) (HS.out.now.2.1) hu32 rfl (by kernel_rfl) ?_) | ((with_reducible refine gate_callee (f := 13) rfl ?_); (with_reducible refine gate_dst (N := 60) rfl ?_); refine gate_guard (by rfl) ?_; refine goesL_ (some 60) rfl rfl Try.func13 (by kernel_rfl) rfl #[.slice Ay 1 cy, .agg #[.int .i64 3, .string ⟨#[99]⟩, .int .i64 0, .int .i64 0, .int .i64 0, .float .f64 0, .string ⟨#[]⟩, .slice Ab 2 cb, .slice none 0 0]] rfl (by (try simp only [List.map_toArray, List.map_cons, List.map_nil]); first | done | rfl) ?_; refine (Kw.chkL (l := [c, d]) H2.out HS.out.now.1 HS.out.now.2.2.1).mono ?_; rintro e w_ ⟨rfl, hb_⟩; refine ⟨_, rfl, ?_⟩; have HS1 := Aside0.mk (Std.step HS.out hb_); clear HS; have HS := HS1; clear HS1; clear hb_; have HS1 := Aside0.mk (Std.drop HS.out); clear HS; have HS := HS1; clear HS1))
          go_meet
          exact ⟨_, rfl, (fun h => by cases h), HS.out⟩
        subst q2
        go_wp2_with (first | ((with_reducible refine gate_dst (N := 36) rfl ?_); refine ld_fld rfl 3 _ rfl (.int .i64 c.f0) (by rfl) (HS.out.now.2.2.2.2.2.2.1) (by rfl) hui rfl ?_) | ((with_reducible refine gate_dst (N := 40) rfl ?_); refine gate_guard (by rfl) ?_; refine ld_fld rfl 3 _ rfl (.int .i64 c.f0) (by rfl) (HS.out.now.2.2.2.2.2.2.1) (by rfl) hui rfl ?_) | ((with_reducible refine gate_dst (N := 44) rfl ?_); refine gate_guard (by rfl) ?_; refine ld_blk (d := (.struct _)) rfl 23 _ rfl (by rfl) (HS.out.now.2.2.2.2.1) hu23 rfl (by kernel_rfl) ?_) | ((with_reducible refine gate_dst (N := 45) rfl ?_); refine gate_guard (by rfl) ?_; refine ld_blk (d := (.struct _)) rfl 28 _ rfl (by rfl) (HS.out.now.2.2.2.2.2.2.2.1) hu28 rfl (by kernel_rfl) ?_) | ((with_reducible refine gate_callee (f := 34) rfl ?_); (with_reducible refine gate_dst (N := 46) rfl ?_); refine gate_guard (by rfl) ?_; refine goesL_ (some 46) rfl rfl Try.func34 (by kernel_rfl) rfl #[.agg #[.string ⟨#[99]⟩, .int .i64 c.f0, .bool true], .agg #[.int .i64 v.f0, .int .i64 v.f1, .float .f64 v.f2, .string v.f3]] rfl (by (try simp only [List.map_toArray, List.map_cons, List.map_nil]); first | done | rfl) ?_; refine (value_Fits.calls kf ⟨#[99]⟩ c.f0 true v.f0 v.f1 v.f2 v.f3 true _ HF.out).mono ?_; rintro e w_ ⟨rfl, hb_⟩; refine ⟨_, rfl, ?_⟩; have HS1 := Aside0.mk (Std.step HS.out hb_); clear HS; have HS := HS1; clear HS1; clear hb_) | ((with_reducible refine gate_dst (N := 50) rfl ?_); refine gate_guard (by rfl) ?_; refine ld_blk (d := (.struct _)) rfl 23 _ rfl (by rfl) (HS.out.now.2.2.2.2.1) hu23 rfl (by kernel_rfl) ?_) | ((with_reducible refine gate_dst (N := 51) rfl ?_); refine gate_guard (by rfl) ?_; refine Kd.R_lit k23 _ 23 ?hg (N := 51) ?hd (xs := ([(⟨⟨#[99]⟩, c.f0, true⟩ : S23)] : List S23)) (inner := [.string ⟨#[99]⟩, .int .i64 c.f0, .bool true]) (ok := fun _ => True) (okp := fun _ => True) ?hr ?hp (fun _ hk => hk) trivial (Below.refl _ _) (Nat.le_refl _) (by simp) ?_; (case hd => rfl); (case hg => rfl); (case hr => first | (go_simp; done) | (go_simp; rfl)); (case hp => exact (Reps.c3 (k23_mkM _ _ _ (⟨⟨#[99]⟩, c.f0, true⟩ : S23)) (Reps.none _ _))); intro v_ w_ ho_ hb_ hg_ hnew_; clear hg_ hnew_; obtain ⟨Ax, cx, ev_⟩ := Kd.R_slice ho_; replace ev_ : v_ = .slice Ax 1 cx := ev_; subst ev_; have HS1 := Aside0.mk (Std.and (Std.rowR ho_ rfl) (Std.step HS.out hb_)); clear HS; have HS := HS1; clear HS1; clear ho_ hb_) | ((with_reducible refine gate_dst (N := 52) rfl ?_); refine gate_guard (by rfl) ?_; refine ld_blk (d := (.struct _)) rfl 32 _ rfl (by rfl) (HS.out.now.2.2.2.1) hu32 rfl (by kernel_rfl) ?_) | ((with_reducible refine gate_callee (f := 13) rfl ?_); (with_reducible refine gate_dst (N := 53) rfl ?_); refine gate_guard (by rfl) ?_; refine goesL_ (some 53) rfl rfl Try.func13 (by kernel_rfl) rfl #[.slice Ax 1 cx, .agg #[.int .i64 2, .string ⟨#[99]⟩, .int .i64 0, .int .i64 0, .int .i64 0, .float .f64 0, .string ⟨#[]⟩, .slice Ai l.length ci, .slice none 0 0]] rfl (by (try simp only [List.map_toArray, List.map_cons, List.map_nil]); first | done | rfl) ?_; refine (Kw.chkL H1.out HS.out.now.1 HS.out.now.2.2.2.2.1).mono ?_; rintro e w_ ⟨rfl, hb_⟩; refine ⟨_, rfl, ?_⟩; have HS1 := Aside0.mk (Std.step HS.out hb_); clear HS; have HS := HS1; clear HS1; clear hb_; have HS1 := Aside0.mk (Std.drop HS.out); clear HS; have HS := HS1; clear HS1) | ((with_reducible refine gate_dst (N := 57) rfl ?_); refine gate_guard (by rfl) ?_; refine ld_blk (d := (.struct _)) rfl 23 _ rfl (by rfl) (HS.out.now.2.2.2.2.1) hu23 rfl (by kernel_rfl) ?_) | ((with_reducible refine gate_dst (N := 58) rfl ?_); refine gate_guard (by rfl) ?_; refine Kd.R_lit k23 _ 23 ?hg (N := 58) ?hd (xs := ([(⟨⟨#[99]⟩, c.f0, true⟩ : S23)] : List S23)) (inner := [.string ⟨#[99]⟩, .int .i64 c.f0, .bool true]) (ok := fun _ => True) (okp := fun _ => True) ?hr ?hp (fun _ hk => hk) trivial (Below.refl _ _) (Nat.le_refl _) (by simp) ?_; (case hd => rfl); (case hg => rfl); (case hr => first | (go_simp; done) | (go_simp; rfl)); (case hp => exact (Reps.c3 (k23_mkM _ _ _ (⟨⟨#[99]⟩, c.f0, true⟩ : S23)) (Reps.none _ _))); intro v_ w_ ho_ hb_ hg_ hnew_; clear hg_ hnew_; obtain ⟨Ay, cy, ev_⟩ := Kd.R_slice ho_; replace ev_ : v_ = .slice Ay 1 cy := ev_; subst ev_; have HS1 := Aside0.mk (Std.and (Std.rowR ho_ rfl) (Std.step HS.out hb_)); clear HS; have HS := HS1; clear HS1; clear ho_ hb_) | ((with_reducible refine gate_dst (N := 59) rfl ?_); refine gate_guard (by rfl) ?_; refine ld_blk (d := (.struct _)) rfl 32 _ rfl (by rfl) (HS.out.now.2.1) hu32 rfl (by kernel_rfl) ?_) | ((with_reducible refine gate_callee (f := 13) rfl ?_); (with_reducible refine gate_dst (N := 60) rfl ?_); refine gate_guard (by rfl) ?_; refine goesL_ (some 60) rfl rfl Try.func13 (by kernel_rfl) rfl #[.slice Ay 1 cy, .agg #[.int .i64 3, .string ⟨#[99]⟩, .int .i64 0, .int .i64 0, .int .i64 0, .float .f64 0, .string ⟨#[]⟩, .slice Ab 2 cb, .slice none 0 0]] rfl (by (try simp only [List.map_toArray, List.map_cons, List.map_nil]); first | done | rfl) ?_; refine (Kw.chkL (l := [c, d]) H2.out HS.out.now.1 HS.out.now.2.2.1).mono ?_; rintro e w_ ⟨rfl, hb_⟩; refine ⟨_, rfl, ?_⟩; have HS1 := Aside0.mk (Std.step HS.out hb_); clear HS; have HS := HS1; clear HS1; clear hb_; have HS1 := Aside0.mk (Std.drop HS.out); clear HS; have HS := HS1; clear HS1))
        go_meet
        exact ⟨_, rfl, (fun _ => ⟨MF.out (by simp), (M2.out (by simp) c (by simp)).1, KK.out⟩), HS.out⟩
    · have k2b : (c.f0 != 2) = true := bne_iff_ne.mpr k2_
      clear k1_ k2_
      go_wp2_with (first | ((with_reducible refine gate_dst (N := 36) rfl ?_); refine ld_fld rfl 3 _ rfl (.int .i64 c.f0) (by rfl) (HS.out.now.2.2.2.2.2.2.1) (by rfl) hui rfl ?_) | ((with_reducible refine gate_dst (N := 40) rfl ?_); refine gate_guard (by rfl) ?_; refine ld_fld rfl 3 _ rfl (.int .i64 c.f0) (by rfl) (HS.out.now.2.2.2.2.2.2.1) (by rfl) hui rfl ?_))
      go_meet
      exact ⟨_, rfl, (fun h => by cases h), HS.out⟩
  case rest =>
    obtain ⟨b, rfl, good, HS1⟩ := hcut
    clear HS
    have HS := Aside0.mk HS1
    clear HS1
    cases b with
    | true =>
      go_wp2_with (fail)
      go_ret
      exact ⟨rfl, HS.out.now.2.2.2.2.2.2.2.2.2⟩
    | false =>
    obtain ⟨mv_, mc_, k0_⟩ := good rfl
    have MV := Aside0.mk mv_
    have MC := Aside0.mk mc_
    have K0 := Aside0.mk k0_
    clear good mv_ mc_ k0_
    go_wp2_with (fail)
    go_loopw [12, 13] (fun s12 s13 wr => ∃ n : Nat, n ≤ 6 ∧ s12 = .int .i64 (Kw.yesN v c n) ∧ s13 = .int .i64 ((n : Int) + 1) ∧ Std wr (Kw.Q w g4 g5 g6 g9 g10 g11 v c d l A3 Ai Ab c3 ci cb)) (fun _ i _ => 8 - (intOf i).toNat)
    case atStart => exact ⟨0, by omega, rfl, rfl, HS.out⟩
    case round =>
      obtain ⟨n, hn, rfl, rfl, HS1⟩ := hrel
      clear HS
      have HS := Aside0.mk HS1
      clear HS1
      have hyr := Kw.yesN_rg v c n
      by_cases h6 : n < 6
      · have HOP := Aside0.mk (show 1 ≤ ((n : Int) + 1) ∧ ((n : Int) + 1) ≤ 6 by omega)
        have b6 : decide (((n : Int) + 1) ≤ 6) = true := decide_eq_true (by omega)
        clear h6
        go_upto_region 13 with (first | ((with_reducible refine gate_dst (N := 68) rfl ?_); refine ld_blk (d := (.struct _)) rfl 28 _ rfl (by rfl) (HS.out.now.2.2.2.2.2.2.1) hu28 rfl (by kernel_rfl) ?_) | ((with_reducible refine gate_callee (f := 28) rfl ?_); (with_reducible refine gate_dst (N := 69) rfl ?_); refine goesL_ (some 69) rfl rfl Try.func28 (by kernel_rfl) rfl #[.int .i64 ((n : Int) + 1), .agg #[.int .i64 c.f0, .int .i64 c.f1, .float .f64 c.f2, .string c.f3]] rfl (by (try simp only [List.map_toArray, List.map_cons, List.map_nil]); first | done | rfl) ?_; refine (Kw.comp ((n : Int) + 1)).mono ?_; rintro e w_ ⟨B1, b1, B2, b2, rfl, hb_⟩; refine ⟨_, rfl, ?_⟩; have HS1 := Aside0.mk (Std.step HS.out hb_); clear HS; have HS := HS1; clear HS1; clear hb_) | ((with_reducible refine gate_dst (N := 14) rfl ?_); refine box_event ?hg (N := 14) ?hd (cs := #[.int .i64 0, .string ⟨#[]⟩, .int .i64 0, .int .i64 0, .int .i64 0, .float .f64 0, .string ⟨#[]⟩, .slice none 0 0, .slice none 0 0]) (t := 32) ?hr ?_; (case hd => rfl); (case hg => rfl); (case hr => first | (go_simp; done) | (go_simp; rfl)); intro g14 hg_ x1 hbox hb_; have HG_ := Aside0.mk hg_; have HX_ := Aside0.mk hbox; have HY_ := Aside0.mk hb_; clear hg_ hbox hb_) | ((with_reducible refine gate_store (p := 14) rfl ?_); refine st_blk rfl 32 _ _ rfl rfl #[.int .i64 1, .string ⟨#[99]⟩, .int .i64 ((n : Int) + 1), .int .i64 c.f0, .int .i64 c.f1, .float .f64 c.f2, .string c.f3, .slice B1 0 b1, .slice B2 0 b2] (by rfl) (by rfl) HX_.out (by rfl) (by kernel_rfl) (by simp [Value.oneCell']) ?_; intro x2 hbox2 ho_; have hb2_ := Only.belowW ho_ HY_.out (Nat.le_of_eq HG_.out.symm); have HGg14 := HG_; clear HX_ HY_ HG_ ho_; have HS1 := Aside0.mk (Std.and (Std.blk hbox2) (Std.step HS.out hb2_)); clear HS; have HS := HS1; clear HS1; clear hb2_ hbox2))
        go_upto_region 14 with (first | ((with_reducible refine gate_dst (N := 70) rfl ?_); refine ld_blk (d := (.struct _)) rfl 32 _ rfl (by rfl) (HS.out.now.1) hu32 rfl (by kernel_rfl) ?_) | ((with_reducible refine gate_dst (N := 71) rfl ?_); refine ld_blk (d := (.struct _)) rfl 28 _ rfl (by rfl) (HS.out.now.2.2.2.2.2.2.2.2.1) hu28 rfl (by kernel_rfl) ?_) | ((with_reducible refine gate_callee (f := 20) rfl ?_); (with_reducible refine gate_dst (N := 72) rfl ?_); refine goesL_ (some 72) rfl rfl Try.func20 (by kernel_rfl) rfl #[.agg #[.int .i64 1, .string ⟨#[99]⟩, .int .i64 ((n : Int) + 1), .int .i64 c.f0, .int .i64 c.f1, .float .f64 c.f2, .string c.f3, .slice B1 0 b1, .slice B2 0 b2], .agg #[.int .i64 v.f0, .int .i64 v.f1, .float .f64 v.f2, .string v.f3]] rfl (by (try simp only [List.map_toArray, List.map_cons, List.map_nil]); first | done | rfl) ?_; refine (Kw.test hv hc MV.out ((n : Int) + 1)).mono ?_; rintro e w_ ⟨rfl, hb_⟩; refine ⟨_, rfl, ?_⟩; have HS1 := Aside0.mk (Std.step HS.out hb_); clear HS; have HS := HS1; clear HS1; clear hb_))
        go_upto_region 15 with (first | ((with_reducible refine gate_dst (N := 74) rfl ?_); refine ld_blk (d := (.struct _)) rfl 32 _ rfl (by rfl) (HS.out.now.1) hu32 rfl (by kernel_rfl) ?_) | ((with_reducible refine gate_callee (f := 22) rfl ?_); (with_reducible refine gate_dst (N := 75) rfl ?_); refine goesL_ (some 75) rfl rfl Try.func22 (by kernel_rfl) rfl #[.agg #[.int .i64 1, .string ⟨#[99]⟩, .int .i64 ((n : Int) + 1), .int .i64 c.f0, .int .i64 c.f1, .float .f64 c.f2, .string c.f3, .slice B1 0 b1, .slice B2 0 b2]] rfl (by (try simp only [List.map_toArray, List.map_cons, List.map_nil]); first | done | rfl) ?_; refine (Kw.opp ((n : Int) + 1) HOP.out).mono ?_; rintro e w_ ⟨B3, b3, B4, b4, rfl, hb_⟩; refine ⟨_, rfl, ?_⟩; have HS1 := Aside0.mk (Std.step HS.out hb_); clear HS; have HS := HS1; clear HS1; clear hb_) | ((with_reducible refine gate_dst (N := 16) rfl ?_); refine box_event ?hg (N := 16) ?hd (cs := #[.int .i64 0, .string ⟨#[]⟩, .int .i64 0, .int .i64 0, .int .i64 0, .float .f64 0, .string ⟨#[]⟩, .slice none 0 0, .slice none 0 0]) (t := 32) ?hr ?_; (case hd => rfl); (case hg => rfl); (case hr => first | (go_simp; done) | (go_simp; rfl)); intro g16 hg_ x3 hbox hb_; have HG_ := Aside0.mk hg_; have HX_ := Aside0.mk hbox; have HY_ := Aside0.mk hb_; clear hg_ hbox hb_) | ((with_reducible refine gate_store (p := 16) rfl ?_); refine st_blk rfl 32 _ _ rfl rfl #[.int .i64 1, .string ⟨#[99]⟩, .int .i64 (oppS ((n : Int) + 1)), .int .i64 c.f0, .int .i64 c.f1, .float .f64 c.f2, .string c.f3, .slice B3 0 b3, .slice B4 0 b4] (by rfl) (by rfl) HX_.out (by rfl) (by kernel_rfl) (by simp [Value.oneCell']) ?_; intro x4 hbox2 ho_; have hb2_ := Only.belowW ho_ HY_.out (Nat.le_of_eq HG_.out.symm); have HGg16 := HG_; clear HX_ HY_ HG_ ho_; have HS1 := Aside0.mk (Std.and (Std.blk hbox2) (Std.step HS.out hb2_)); clear HS; have HS := HS1; clear HS1; clear hb2_ hbox2))
        have HOQ := Aside0.mk (opp_range HOP.out)
        have eqq := opp_opp HOP.out
        have HEQ := Aside0.mk eqq
        clear eqq
        go_upto_region 16 with (first | ((with_reducible refine gate_dst (N := 79) rfl ?_); refine ld_blk (d := (.struct _)) rfl 32 _ rfl (by rfl) (HS.out.now.1) hu32 rfl (by kernel_rfl) ?_) | ((with_reducible refine gate_callee (f := 22) rfl ?_); (with_reducible refine gate_dst (N := 80) rfl ?_); refine goesL_ (some 80) rfl rfl Try.func22 (by kernel_rfl) rfl #[.agg #[.int .i64 1, .string ⟨#[99]⟩, .int .i64 (oppS ((n : Int) + 1)), .int .i64 c.f0, .int .i64 c.f1, .float .f64 c.f2, .string c.f3, .slice B3 0 b3, .slice B4 0 b4]] rfl (by (try simp only [List.map_toArray, List.map_cons, List.map_nil]); first | done | rfl) ?_; refine (Kw.opp _ HOQ.out).mono ?_; rintro e w_ ⟨B5, b5, B6, b6_, rfl, hb_⟩; rw [HEQ.out]; refine ⟨_, rfl, ?_⟩; have HS1 := Aside0.mk (Std.step HS.out hb_); clear HS; have HS := HS1; clear HS1; clear hb_) | ((with_reducible refine gate_dst (N := 18) rfl ?_); refine box_event ?hg (N := 18) ?hd (cs := #[.int .i64 0, .string ⟨#[]⟩, .int .i64 0, .int .i64 0, .int .i64 0, .float .f64 0, .string ⟨#[]⟩, .slice none 0 0, .slice none 0 0]) (t := 32) ?hr ?_; (case hd => rfl); (case hg => rfl); (case hr => first | (go_simp; done) | (go_simp; rfl)); intro g18 hg_ x5 hbox hb_; have HG_ := Aside0.mk hg_; have HX_ := Aside0.mk hbox; have HY_ := Aside0.mk hb_; clear hg_ hbox hb_) | ((with_reducible refine gate_store (p := 18) rfl ?_); refine st_blk rfl 32 _ _ rfl rfl #[.int .i64 1, .string ⟨#[99]⟩, .int .i64 ((n : Int) + 1), .int .i64 c.f0, .int .i64 c.f1, .float .f64 c.f2, .string c.f3, .slice B5 0 b5, .slice B6 0 b6_] (by rfl) (by rfl) HX_.out (by rfl) (by kernel_rfl) (by simp [Value.oneCell']) ?_; intro x6 hbox2 ho_; have hb2_ := Only.belowW ho_ HY_.out (Nat.le_of_eq HG_.out.symm); have HGg18 := HG_; clear HX_ HY_ HG_ ho_; have HS1 := Aside0.mk (Std.and (Std.blk hbox2) (Std.step HS.out hb2_)); clear HS; have HS := HS1; clear HS1; clear hb2_ hbox2))
        have hne : (((n : Int) + 1) != ((n : Int) + 1)) = false := bne_self_eq_false _
        have hnt : (tV (oppS ((n : Int) + 1)) v c != kNot (tV ((n : Int) + 1) v c)) = false := bne_eq_false_iff_eq.mpr (tV_opp HOP.out v c)
        go_upto_region 18 with (first | ((with_reducible refine gate_dst (N := 83) rfl ?_); refine ld_blk (d := (.struct _)) rfl 23 _ rfl (by rfl) (HS.out.now.2.2.2.2.2.2.2.1) hu23 rfl (by kernel_rfl) ?_) | ((with_reducible refine gate_dst (N := 84) rfl ?_); refine Kd.R_lit k23 _ 23 ?hg (N := 84) ?hd (xs := ([(⟨⟨#[99]⟩, c.f0, true⟩ : S23)] : List S23)) (inner := [.string ⟨#[99]⟩, .int .i64 c.f0, .bool true]) (ok := fun _ => True) (okp := fun _ => True) ?hr ?hp (fun _ hk => hk) trivial (Below.refl _ _) (Nat.le_refl _) (by simp) ?_; (case hd => rfl); (case hg => rfl); (case hr => first | (go_simp; done) | (go_simp; rfl)); (case hp => exact (Reps.c3 (k23_mkM _ _ _ (⟨⟨#[99]⟩, c.f0, true⟩ : S23)) (Reps.none _ _))); intro v_ w_ ho_ hb_ hg_ hnew_; clear hg_ hnew_; obtain ⟨Ax, cx, ev_⟩ := Kd.R_slice ho_; replace ev_ : v_ = .slice Ax 1 cx := ev_; subst ev_; have HS1 := Aside0.mk (Std.and (Std.rowR ho_ rfl) (Std.step HS.out hb_)); clear HS; have HS := HS1; clear HS1; clear ho_ hb_) | ((with_reducible refine gate_dst (N := 85) rfl ?_); refine ld_blk (d := (.struct _)) rfl 32 _ rfl (by rfl) (HS.out.now.2.2.2.1) hu32 rfl (by kernel_rfl) ?_) | ((with_reducible refine gate_callee (f := 13) rfl ?_); (with_reducible refine gate_dst (N := 86) rfl ?_); refine goesL_ (some 86) rfl rfl Try.func13 (by kernel_rfl) rfl #[.slice Ax 1 cx, .agg #[.int .i64 1, .string ⟨#[99]⟩, .int .i64 ((n : Int) + 1), .int .i64 c.f0, .int .i64 c.f1, .float .f64 c.f2, .string c.f3, .slice B1 0 b1, .slice B2 0 b2]] rfl (by (try simp only [List.map_toArray, List.map_cons, List.map_nil]); first | done | rfl) ?_; refine (Kw.chk hc MC.out K0.out ((n : Int) + 1) HOP.out HS.out.now.1).mono ?_; rintro e w_ ⟨rfl, hb_⟩; refine ⟨_, rfl, ?_⟩; have HS1 := Aside0.mk (Std.step HS.out hb_); clear HS; have HS := HS1; clear HS1; clear hb_; have HS1 := Aside0.mk (Std.drop HS.out); clear HS; have HS := HS1; clear HS1) | ((with_reducible refine gate_dst (N := 90) rfl ?_); refine gate_guard (by rfl) ?_; refine ld_blk (d := (.struct _)) rfl 28 _ rfl (by rfl) (HS.out.now.2.2.2.2.2.2.2.2.2.2.1) hu28 rfl (by kernel_rfl) ?_) | ((with_reducible refine gate_callee (f := 35) rfl ?_); (with_reducible refine gate_dst (N := 91) rfl ?_); refine gate_guard (by rfl) ?_; refine goesL_ (some 91) rfl rfl Try.func35 (by kernel_rfl) rfl #[.int .i8 (tV ((n : Int) + 1) v c), .agg #[.int .i64 v.f0, .int .i64 v.f1, .float .f64 v.f2, .string v.f3]] rfl (by (try simp only [List.map_toArray, List.map_cons, List.map_nil]); first | done | rfl) ?_; refine (Kw.endsT ((n : Int) + 1)).mono ?_; rintro e w_ ⟨rfl, hb_⟩; refine ⟨_, rfl, ?_⟩; have HS1 := Aside0.mk (Std.step HS.out hb_); clear HS; have HS := HS1; clear HS1; clear hb_) | ((with_reducible refine gate_dst (N := 104) rfl ?_); refine gate_guard (by rfl) ?_; refine ld_fld rfl 3 _ rfl (.int .i64 ((n : Int) + 1)) (by rfl) (HS.out.now.1) (by rfl) hui rfl ?_) | ((with_reducible refine gate_dst (N := 109) rfl ?_); refine gate_guard (by rfl) ?_; refine ld_blk (d := (.struct _)) rfl 32 _ rfl (by rfl) (HS.out.now.2.1) hu32 rfl (by kernel_rfl) ?_) | ((with_reducible refine gate_dst (N := 110) rfl ?_); refine gate_guard (by rfl) ?_; refine ld_blk (d := (.struct _)) rfl 28 _ rfl (by rfl) (HS.out.now.2.2.2.2.2.2.2.2.2.2.1) hu28 rfl (by kernel_rfl) ?_) | ((with_reducible refine gate_callee (f := 20) rfl ?_); (with_reducible refine gate_dst (N := 111) rfl ?_); refine gate_guard (by rfl) ?_; refine goesL_ (some 111) rfl rfl Try.func20 (by kernel_rfl) rfl #[.agg #[.int .i64 1, .string ⟨#[99]⟩, .int .i64 (oppS ((n : Int) + 1)), .int .i64 c.f0, .int .i64 c.f1, .float .f64 c.f2, .string c.f3, .slice B3 0 b3, .slice B4 0 b4], .agg #[.int .i64 v.f0, .int .i64 v.f1, .float .f64 v.f2, .string v.f3]] rfl (by (try simp only [List.map_toArray, List.map_cons, List.map_nil]); first | done | rfl) ?_; refine (Kw.test hv hc MV.out (oppS ((n : Int) + 1))).mono ?_; rintro e w_ ⟨rfl, hb_⟩; refine ⟨_, rfl, ?_⟩; have HS1 := Aside0.mk (Std.step HS.out hb_); clear HS; have HS := HS1; clear HS1; clear hb_) | ((with_reducible refine gate_callee (f := 36) rfl ?_); (with_reducible refine gate_dst (N := 113) rfl ?_); refine gate_guard (by rfl) ?_; refine goesL_ (some 113) rfl rfl Try.func36 (by kernel_rfl) rfl #[.int .i8 (tV ((n : Int) + 1) v c)] rfl (by (try simp only [List.map_toArray, List.map_cons, List.map_nil]); first | done | rfl) ?_; refine (Kw.nott _).mono ?_; rintro e w_ ⟨rfl, hb_⟩; refine ⟨_, rfl, ?_⟩; have HS1 := Aside0.mk (Std.step HS.out hb_); clear HS; have HS := HS1; clear HS1; clear hb_))
        have HS1 := Aside0.mk (Std.drop (Std.drop (Std.drop HS.out)))
        clear HS hne hnt
        have HS := HS1
        clear HS1
        generalize htt : tV ((n : Int) + 1) v c = t
        have HTT := Aside0.mk htt
        clear htt
        by_cases t1 : t = 1
        rotate_left
        · have t1b : (t == 1) = false := beq_eq_false_iff_ne.mpr t1
          go_wp2_with (fail)
          go_roundw
          case rel => exact ⟨n + 1, by have := HOP.out; omega, (by rw [Kw.yesN_nil n (fun h => by have h1 := HTT.out.symm.trans h.1; have h2 := h.2; omega)]), by go_num, HS.out⟩
          case measure => simp [intOf]; omega
        subst t1
        by_cases o1 : (((n : Int) + 1) = 1)
        · have o1b : (((n : Int) + 1) == 1) = true := beq_iff_eq.mpr o1
          go_wp2_with (fail)
          go_roundw
          case rel => exact ⟨n + 1, by have := HOP.out; omega, (by rw [Kw.yesN_one n HTT.out (by omega)]), by go_num, HS.out⟩
          case measure => simp [intOf]; omega
        have o1b : (((n : Int) + 1) == 1) = false := beq_eq_false_iff_ne.mpr o1
        by_cases o3 : (((n : Int) + 1) = 3)
        · have o3b : (((n : Int) + 1) == 3) = true := beq_iff_eq.mpr o3
          go_wp2_with (fail)
          go_roundw
          case rel => exact ⟨n + 1, by have := HOP.out; omega, (by rw [Kw.yesN_one n HTT.out (by omega)]), by go_num, HS.out⟩
          case measure => simp [intOf]; omega
        have o3b : (((n : Int) + 1) == 3) = false := beq_eq_false_iff_ne.mpr o3
        by_cases o5 : (((n : Int) + 1) = 5)
        · have o5b : (((n : Int) + 1) == 5) = true := beq_iff_eq.mpr o5
          go_wp2_with (fail)
          go_roundw
          case rel => exact ⟨n + 1, by have := HOP.out; omega, (by rw [Kw.yesN_one n HTT.out (by omega)]), by go_num, HS.out⟩
          case measure => simp [intOf]; omega
        have o5b : (((n : Int) + 1) == 5) = false := beq_eq_false_iff_ne.mpr o5
        go_wp2_with (fail)
        go_roundw
        case rel => exact ⟨n + 1, by have := HOP.out; omega, (by rw [Kw.yesN_nil n (fun h => by have h1 := HTT.out.symm.trans h.1; have h2 := h.2; omega)]), by go_num, HS.out⟩
        case measure => simp [intOf]; omega
      · obtain rfl : n = 6 := by omega
        have b6 : decide (((6 : Nat) : Int) + 1 ≤ 6) = false := by decide
        clear h6 hyr hn
        have hs6 := Kw.yesN_six v c
        by_cases v0 : v.f0 = 0
        · rw [if_pos v0] at hs6
          have v0b : (v.f0 == 0) = true := beq_iff_eq.mpr v0
          have v0c : (v.f0 != 0) = false := bne_eq_false_iff_eq.mpr v0
          have V0 := Aside0.mk v0
          clear v0
          (try rw [hs6])
          clear hs6
          go_upto_region 23 with (first | ((with_reducible refine gate_dst (N := 20) rfl ?_); refine box_event ?hg (N := 20) ?hd (cs := #[.int .i64 0, .string ⟨#[]⟩, .int .i64 0, .int .i64 0, .int .i64 0, .float .f64 0, .string ⟨#[]⟩, .slice none 0 0, .slice none 0 0]) (t := 32) ?hr ?_; (case hd => rfl); (case hg => rfl); (case hr => first | (go_simp; done) | (go_simp; rfl)); intro g20 hg_ y1 hbox hb_; have HG_ := Aside0.mk hg_; have HX_ := Aside0.mk hbox; have HY_ := Aside0.mk hb_; clear hg_ hbox hb_) | ((with_reducible refine gate_store (p := 20) rfl ?_); refine st_blk rfl 32 _ _ rfl rfl #[.int .i64 4, .string ⟨#[99]⟩, .int .i64 0, .int .i64 0, .int .i64 0, .float .f64 0, .string ⟨#[]⟩, .slice none 0 0, .slice none 0 0] (by rfl) (by rfl) HX_.out (by rfl) (by kernel_rfl) (by simp [Value.oneCell']) ?_; intro y2 hbox2 ho_; have hb2_ := Only.belowW ho_ HY_.out (Nat.le_of_eq HG_.out.symm); have HGg20 := HG_; clear HX_ HY_ HG_ ho_; have HS1 := Aside0.mk (Std.and (Std.blk hbox2) (Std.step HS.out hb2_)); clear HS; have HS := HS1; clear HS1; clear hb2_ hbox2) | ((with_reducible refine gate_dst (N := 134) rfl ?_); refine ld_fld rfl 3 _ rfl (.int .i64 v.f0) (by rfl) (HS.out.now.2.2.2.2.2.2.2.2.1) (by rfl) hui rfl ?_) | ((with_reducible refine gate_dst (N := 140) rfl ?_); refine gate_guard (by rfl) ?_; refine ld_blk (d := (.struct _)) rfl 32 _ rfl (by rfl) (HS.out.now.1) hu32 rfl (by kernel_rfl) ?_) | ((with_reducible refine gate_dst (N := 141) rfl ?_); refine gate_guard (by rfl) ?_; refine ld_blk (d := (.struct _)) rfl 28 _ rfl (by rfl) (HS.out.now.2.2.2.2.2.2.2.2.1) hu28 rfl (by kernel_rfl) ?_) | ((with_reducible refine gate_callee (f := 20) rfl ?_); (with_reducible refine gate_dst (N := 142) rfl ?_); refine gate_guard (by rfl) ?_; refine goesL_ (some 142) rfl rfl Try.func20 (by kernel_rfl) rfl #[.agg #[.int .i64 4, .string ⟨#[99]⟩, .int .i64 0, .int .i64 0, .int .i64 0, .float .f64 0, .string ⟨#[]⟩, .slice none 0 0, .slice none 0 0], .agg #[.int .i64 v.f0, .int .i64 v.f1, .float .f64 v.f2, .string v.f3]] rfl (by (try simp only [List.map_toArray, List.map_cons, List.map_nil]); first | done | rfl) ?_; refine (Kw.testL (l := []) 4 hv okn MV.out 1 ((nuV MV.out).trans (if_pos V0.out)) ⟨Nat.le_refl _, C_zero _ _ _⟩).mono ?_; rintro e w_ ⟨rfl, hb_⟩; refine ⟨_, rfl, ?_⟩; have HS1 := Aside0.mk (Std.step HS.out hb_); clear HS; have HS := HS1; clear HS1; clear hb_) | ((with_reducible refine gate_dst (N := 148) rfl ?_); refine gate_guard (by rfl) ?_; refine ld_fld rfl 3 _ rfl (.int .i64 v.f0) (by rfl) (HS.out.now.2.2.2.2.2.2.2.2.1) (by rfl) hui rfl ?_) | ((with_reducible refine gate_dst (N := 154) rfl ?_); refine gate_guard (by rfl) ?_; refine ld_blk (d := (.struct _)) rfl 32 _ rfl (by rfl) (HS.out.now.1) hu32 rfl (by kernel_rfl) ?_) | ((with_reducible refine gate_dst (N := 155) rfl ?_); refine gate_guard (by rfl) ?_; refine ld_blk (d := (.struct _)) rfl 28 _ rfl (by rfl) (HS.out.now.2.2.2.2.2.2.2.2.1) hu28 rfl (by kernel_rfl) ?_) | ((with_reducible refine gate_callee (f := 20) rfl ?_); (with_reducible refine gate_dst (N := 156) rfl ?_); refine gate_guard (by rfl) ?_; refine goesL_ (some 156) rfl rfl Try.func20 (by kernel_rfl) rfl #[.agg #[.int .i64 4, .string ⟨#[99]⟩, .int .i64 0, .int .i64 0, .int .i64 0, .float .f64 0, .string ⟨#[]⟩, .slice none 0 0, .slice none 0 0], .agg #[.int .i64 v.f0, .int .i64 v.f1, .float .f64 v.f2, .string v.f3]] rfl (by (try simp only [List.map_toArray, List.map_cons, List.map_nil]); first | done | rfl) ?_; refine (Kw.testL (l := []) 4 hv okn MV.out 1 ((nuV MV.out).trans (if_pos V0.out)) ⟨Nat.le_refl _, C_zero _ _ _⟩).mono ?_; rintro e w_ ⟨rfl, hb_⟩; refine ⟨_, rfl, ?_⟩; have HS1 := Aside0.mk (Std.step HS.out hb_); clear HS; have HS := HS1; clear HS1; clear hb_))
          have hnb : (kAnd (tV 6 v c) (tV 4 v d) != kAnd (tV 6 v c) (tV 4 v d)) = false := bne_self_eq_false _
          have HS1 := Aside0.mk (Std.step HS.out (below_drew1 (Below.refl _ _)))
          refine start_ (n := 14) (S := fun w' => ((w'.cell? ⟨g11, 0, none⟩ = some (.int .i64 3) ∧ w'.cell? ⟨g11, 1, none⟩ = some (.string ⟨#[99]⟩) ∧ w'.cell? ⟨g11, 2, none⟩ = some (.int .i64 0) ∧ w'.cell? ⟨g11, 3, none⟩ = some (.int .i64 0) ∧ w'.cell? ⟨g11, 4, none⟩ = some (.int .i64 0) ∧ w'.cell? ⟨g11, 5, none⟩ = some (.float .f64 0) ∧ w'.cell? ⟨g11, 6, none⟩ = some (.string ⟨#[]⟩) ∧ w'.cell? ⟨g11, 7, none⟩ = some (.slice Ab 2 cb) ∧ w'.cell? ⟨g11, 8, none⟩ = some (.slice none 0 0)) ∧ (w'.cell? ⟨g4, 0, none⟩ = some (.int .i64 v.f0) ∧ w'.cell? ⟨g4, 1, none⟩ = some (.int .i64 v.f1) ∧ w'.cell? ⟨g4, 2, none⟩ = some (.float .f64 v.f2) ∧ w'.cell? ⟨g4, 3, none⟩ = some (.string v.f3))) ∧ (w'.cell? ⟨g5, 0, none⟩ = some (.int .i64 c.f0) ∧ w'.cell? ⟨g5, 1, none⟩ = some (.int .i64 c.f1) ∧ w'.cell? ⟨g5, 2, none⟩ = some (.float .f64 c.f2) ∧ w'.cell? ⟨g5, 3, none⟩ = some (.string c.f3)) ∧ (w'.cell? ⟨g6, 0, none⟩ = some (.int .i64 d.f0) ∧ w'.cell? ⟨g6, 1, none⟩ = some (.int .i64 d.f1) ∧ w'.cell? ⟨g6, 2, none⟩ = some (.float .f64 d.f2) ∧ w'.cell? ⟨g6, 3, none⟩ = some (.string d.f3))) (ds := []) #[false, false, false, false, false, false, false, false, false, false, false, false, false, false] (by kernel_rfl) rfl rfl ⟨⟨cells_9 (HS1.out.now.2.1), cells_4 (HS1.out.now.2.2.2.2.2.2.2.2.1)⟩, cells_4 (HS1.out.now.2.2.2.2.2.2.2.1), cells_4 (HS1.out.now.2.2.2.2.2.2.1)⟩ (fun hHeld => ?_)
          clear HS
          have HS := HS1
          clear HS1
          generalize World.drew _ = z1 at HS hHeld ⊢
          refine takeP #[true, false, false, false, false, false, false, false, false, false, false, false, false, false] (by kernel_rfl) hHeld (i := 0) (N := some 161) ?_
          refine takeP #[true, true, false, false, false, false, false, false, false, false, false, false, false, false] (by kernel_rfl) hHeld (i := 1) (N := some 162) ?_
          refine takeP #[true, true, false, true, false, false, false, false, false, false, false, false, false, false] (by kernel_rfl) hHeld (i := 3) (N := some 164) ?_
          refine takeP #[true, true, false, true, false, true, false, false, false, false, false, false, false, false] (by kernel_rfl) hHeld (i := 5) (N := some 166) ?_
          refine takeP #[true, true, false, true, false, true, false, true, false, false, false, false, false, false] (by kernel_rfl) hHeld (i := 7) (N := some 168) ?_
          refine takeP #[true, true, false, true, false, true, false, true, false, true, false, false, false, false] (by kernel_rfl) hHeld (i := 9) (N := some 170) ?_
          refine one_ (i := 2) (N := some 163) #[true, true, true, true, false, true, false, true, false, true, false, false, false, false] rfl rfl (by kernel_rfl) (by decide) (fun K hK => ?_)
          refine goes_ Try.func20 (by kernel_rfl) rfl #[.agg #[.int .i64 3, .string ⟨#[99]⟩, .int .i64 0, .int .i64 0, .int .i64 0, .float .f64 0, .string ⟨#[]⟩, .slice Ab 2 cb, .slice none 0 0], .agg #[.int .i64 v.f0, .int .i64 v.f1, .float .f64 v.f2, .string v.f3]] (by rfl) rfl rfl (by (try simp only [List.map_toArray, List.map_cons, List.map_nil]); first | done | rfl) ?_
          refine (Kw.testL (l := [c, d]) 3 hv hcd MV.out _ (beV MV.out) HS.out.now.2.2.1).mono ?_
          rintro e_ w_ ⟨rfl, hb_⟩
          refine ⟨_, rfl, ?_⟩
          have HS1 := Aside0.mk (Std.step HS.out hb_)
          clear HS hb_
          have HS := HS1
          clear HS1
          refine hK.out _ _ ⟨⟨cells_9 (HS.out.now.2.1), cells_4 (HS.out.now.2.2.2.2.2.2.2.2.1)⟩, cells_4 (HS.out.now.2.2.2.2.2.2.2.1), cells_4 (HS.out.now.2.2.2.2.2.2.1)⟩ (fun hHeld => ?_)
          clear hK K
          refine norm_ (a' := ?_) ?_ ?_
          rotate_left
          · show Act.put _ (some 163) _ = _
            simp only [Act.put, List.setIfInBounds_toArray, List.set_cons_zero, List.set_cons_succ, i64_w, i32_w]
            rfl
          refine one_ (i := 4) (N := some 165) #[true, true, true, true, true, true, false, true, false, true, false, false, false, false] rfl rfl (by kernel_rfl) (by decide) (fun K hK => ?_)
          refine goes_ Try.func28 (by kernel_rfl) rfl #[.int .i64 6, .agg #[.int .i64 c.f0, .int .i64 c.f1, .float .f64 c.f2, .string c.f3]] (by rfl) rfl rfl (by (try simp only [List.map_toArray, List.map_cons, List.map_nil]); first | done | rfl) ?_
          refine (Kw.comp 6).mono ?_
          rintro e_ w_ ⟨B1, b1, B2, b2, rfl, hb_⟩
          refine ⟨_, rfl, ?_⟩
          have HS1 := Aside0.mk (Std.step HS.out hb_)
          clear HS hb_
          have HS := HS1
          clear HS1
          refine hK.out _ _ ⟨⟨cells_9 (HS.out.now.2.1), cells_4 (HS.out.now.2.2.2.2.2.2.2.2.1)⟩, cells_4 (HS.out.now.2.2.2.2.2.2.2.1), cells_4 (HS.out.now.2.2.2.2.2.2.1)⟩ (fun hHeld => ?_)
          clear hK K
          refine norm_ (a' := ?_) ?_ ?_
          rotate_left
          · show Act.put _ (some 165) _ = _
            simp only [Act.put, List.setIfInBounds_toArray, List.set_cons_zero, List.set_cons_succ, i64_w, i32_w]
            rfl
          refine one_ (i := 6) (N := some 167) #[true, true, true, true, true, true, true, true, false, true, false, false, false, false] rfl rfl (by kernel_rfl) (by decide) (fun K hK => ?_)
          refine goes_ Try.func20 (by kernel_rfl) rfl #[.agg #[.int .i64 1, .string ⟨#[99]⟩, .int .i64 6, .int .i64 c.f0, .int .i64 c.f1, .float .f64 c.f2, .string c.f3, .slice B1 0 b1, .slice B2 0 b2], .agg #[.int .i64 v.f0, .int .i64 v.f1, .float .f64 v.f2, .string v.f3]] (by rfl) rfl rfl (by (try simp only [List.map_toArray, List.map_cons, List.map_nil]); first | done | rfl) ?_
          refine (Kw.test hv hc MV.out 6).mono ?_
          rintro e_ w_ ⟨rfl, hb_⟩
          refine ⟨_, rfl, ?_⟩
          have HS1 := Aside0.mk (Std.step HS.out hb_)
          clear HS hb_
          have HS := HS1
          clear HS1
          refine hK.out _ _ ⟨⟨cells_9 (HS.out.now.2.1), cells_4 (HS.out.now.2.2.2.2.2.2.2.2.1)⟩, cells_4 (HS.out.now.2.2.2.2.2.2.2.1), cells_4 (HS.out.now.2.2.2.2.2.2.1)⟩ (fun hHeld => ?_)
          clear hK K
          refine norm_ (a' := ?_) ?_ ?_
          rotate_left
          · show Act.put _ (some 167) _ = _
            simp only [Act.put, List.setIfInBounds_toArray, List.set_cons_zero, List.set_cons_succ, i64_w, i32_w]
            rfl
          refine one_ (i := 8) (N := some 169) #[true, true, true, true, true, true, true, true, true, true, false, false, false, false] rfl rfl (by kernel_rfl) (by decide) (fun K hK => ?_)
          refine goes_ Try.func28 (by kernel_rfl) rfl #[.int .i64 4, .agg #[.int .i64 d.f0, .int .i64 d.f1, .float .f64 d.f2, .string d.f3]] (by rfl) rfl rfl (by (try simp only [List.map_toArray, List.map_cons, List.map_nil]); first | done | rfl) ?_
          refine (Kw.comp 4).mono ?_
          rintro e_ w_ ⟨B3, b3, B4, b4, rfl, hb_⟩
          refine ⟨_, rfl, ?_⟩
          have HS1 := Aside0.mk (Std.step HS.out hb_)
          clear HS hb_
          have HS := HS1
          clear HS1
          refine hK.out _ _ ⟨⟨cells_9 (HS.out.now.2.1), cells_4 (HS.out.now.2.2.2.2.2.2.2.2.1)⟩, cells_4 (HS.out.now.2.2.2.2.2.2.2.1), cells_4 (HS.out.now.2.2.2.2.2.2.1)⟩ (fun hHeld => ?_)
          clear hK K
          refine norm_ (a' := ?_) ?_ ?_
          rotate_left
          · show Act.put _ (some 169) _ = _
            simp only [Act.put, List.setIfInBounds_toArray, List.set_cons_zero, List.set_cons_succ, i64_w, i32_w]
            rfl
          refine one_ (i := 10) (N := some 171) #[true, true, true, true, true, true, true, true, true, true, true, false, false, false] rfl rfl (by kernel_rfl) (by decide) (fun K hK => ?_)
          refine goes_ Try.func20 (by kernel_rfl) rfl #[.agg #[.int .i64 1, .string ⟨#[99]⟩, .int .i64 4, .int .i64 d.f0, .int .i64 d.f1, .float .f64 d.f2, .string d.f3, .slice B3 0 b3, .slice B4 0 b4], .agg #[.int .i64 v.f0, .int .i64 v.f1, .float .f64 v.f2, .string v.f3]] (by rfl) rfl rfl (by (try simp only [List.map_toArray, List.map_cons, List.map_nil]); first | done | rfl) ?_
          refine (Kw.test hv hd MV.out 4).mono ?_
          rintro e_ w_ ⟨rfl, hb_⟩
          refine ⟨_, rfl, ?_⟩
          have HS1 := Aside0.mk (Std.step HS.out hb_)
          clear HS hb_
          have HS := HS1
          clear HS1
          refine hK.out _ _ ⟨⟨cells_9 (HS.out.now.2.1), cells_4 (HS.out.now.2.2.2.2.2.2.2.2.1)⟩, cells_4 (HS.out.now.2.2.2.2.2.2.2.1), cells_4 (HS.out.now.2.2.2.2.2.2.1)⟩ (fun hHeld => ?_)
          clear hK K
          refine norm_ (a' := ?_) ?_ ?_
          rotate_left
          · show Act.put _ (some 171) _ = _
            simp only [Act.put, List.setIfInBounds_toArray, List.set_cons_zero, List.set_cons_succ, i64_w, i32_w]
            rfl
          refine one_ (i := 11) (N := some 172) #[true, true, true, true, true, true, true, true, true, true, true, true, false, false] rfl rfl (by kernel_rfl) (by decide) (fun K hK => ?_)
          refine Kd.R_lit_step (Kd.int .i8) _ 41 (by rfl) (N := 172) ?hd (xs := ([tV 6 v c, tV 4 v d] : List Int)) (inner := [.int .i8 (tV 6 v c), .int .i8 (tV 4 v d)]) (ok := fun _ => True) (okp := fun _ => True) ?hr ?hp (fun _ hk => hk) trivial (Below.refl _ _) (Nat.le_refl _) (by simp) ?_
          (case hd => rfl)
          (case hr => first | (go_simp; done) | (go_simp; rfl))
          (case hp => exact (Reps.one (show Kd.M (Kd.int .i8) _ _ _ (tV 6 v c) [.int .i8 (tV 6 v c)] from rfl) (Reps.one (show Kd.M (Kd.int .i8) _ _ _ (tV 4 v d) [.int .i8 (tV 4 v d)] from rfl) (Reps.none _ _))))
          intro v_ w_ ho_ hb_ hg_ hnew_
          clear hg_ hnew_
          obtain ⟨Ar, cr, ev_⟩ := Kd.R_slice ho_
          replace ev_ : v_ = .slice Ar 2 cr := ev_
          subst ev_
          have HS1 := Aside0.mk (Std.and (Std.rowR ho_ rfl) (Std.step HS.out hb_))
          clear HS ho_ hb_
          have HS := HS1
          clear HS1
          refine hK.out _ _ ⟨⟨cells_9 (HS.out.now.2.2.1), cells_4 (HS.out.now.2.2.2.2.2.2.2.2.2.1)⟩, cells_4 (HS.out.now.2.2.2.2.2.2.2.2.1), cells_4 (HS.out.now.2.2.2.2.2.2.2.1)⟩ (fun hHeld => ?_)
          clear hK K
          refine norm_ (a' := ?_) ?_ ?_
          rotate_left
          · show Act.put _ (some 172) _ = _
            simp only [Act.put, List.setIfInBounds_toArray, List.set_cons_zero, List.set_cons_succ, i64_w, i32_w]
            rfl
          refine one_ (i := 12) (N := some 173) #[true, true, true, true, true, true, true, true, true, true, true, true, true, false] rfl rfl (by kernel_rfl) (by decide) (fun K hK => ?_)
          refine goes_ Try.func37 (by kernel_rfl) rfl #[.slice Ar 2 cr] (by rfl) rfl rfl (by (try simp only [List.map_toArray, List.map_cons, List.map_nil]); first | done | rfl) ?_
          refine (Kw.andt (tV_range _ _ _) (tV_range _ _ _) HS.out.now.1.2 HS.out.now.1.1).mono ?_
          rintro e_ w_ ⟨rfl, hb_⟩
          refine ⟨_, rfl, ?_⟩
          have HS1 := Aside0.mk (Std.step HS.out hb_)
          clear HS hb_
          have HS := HS1
          clear HS1
          refine hK.out _ _ ⟨⟨cells_9 (HS.out.now.2.2.1), cells_4 (HS.out.now.2.2.2.2.2.2.2.2.2.1)⟩, cells_4 (HS.out.now.2.2.2.2.2.2.2.2.1), cells_4 (HS.out.now.2.2.2.2.2.2.2.1)⟩ (fun hHeld => ?_)
          clear hK K
          refine norm_ (a' := ?_) ?_ ?_
          rotate_left
          · show Act.put _ (some 173) _ = _
            simp only [Act.put, List.setIfInBounds_toArray, List.set_cons_zero, List.set_cons_succ, i64_w, i32_w]
            rfl
          refine pureP #[true, true, true, true, true, true, true, true, true, true, true, true, true, true] (by kernel_rfl) (i := 13) (N := some 174) ?_
          refine done_ (by kernel_rfl) ?_
          clear hHeld
          go_wp2_with (first | ((with_reducible refine gate_dst (N := 176) rfl ?_); refine ld_fld rfl 3 _ rfl (.int .i64 v.f0) (by rfl) (HS.out.now.2.2.2.2.2.2.2.2.2.1) (by rfl) hui rfl ?_))
          have HS1 := Aside0.mk (Std.drop (Std.drop HS.out))
          clear HS
          have HS := HS1
          clear HS1
          go_loopw [21, 22] (fun s21 s22 wr => ∃ j : Nat, j ≤ l.length ∧ s21 = .int .i8 (orV v (anyV v (l.take j))) ∧ s22 = .int .i64 (j : Int) ∧ Std wr (Kw.Q w g4 g5 g6 g9 g10 g11 v c d l A3 Ai Ab c3 ci cb)) (fun _ i _ => l.length - (intOf i).toNat)
          case atStart => exact ⟨0, by omega, by rw [show orV v (anyV v (l.take 0)) = 2 from by unfold orV anyV; simp [V0.out]], rfl, HS.out⟩
          case round =>
            obtain ⟨j, hj, rfl, rfl, HS1⟩ := hrel
            clear HS
            have HS := Aside0.mk HS1
            clear HS1
            by_cases hlt : j < l.length
            · obtain ⟨ad, rfl⟩ := Kw.some_at HS.out.now.2.2.2.2.2.2.2.2.1 hlt
              have hm := HS.out.now.2.2.2.2.2.2.2.2.1.2.2.1
              have p1 : (0 : Int) ≤ (j : Int) := by omega
              have p2 : (j : Int) < (l.length : Int) := by omega
              have p3 : decide ((j : Int) < (l.length : Int)) = true := decide_eq_true p2
              have p4 : decide (j < l.length) = true := decide_eq_true hlt
              have HLT := Aside0.mk hlt
              go_upto_region 31 with (fail)
              have HS1 := Aside0.mk (Std.step HS.out (below_drew1 (Below.refl _ _)))
              refine start_ (n := 11) (S := fun w' => (w'.cell? (ad.add (j * 4)) = some (.int .i64 (rz l j).f0) ∧ w'.cell? ⟨(ad.add (j * 4)).block, (ad.add (j * 4)).off + 1, none⟩ = some (.int .i64 (rz l j).f1) ∧ w'.cell? ⟨(ad.add (j * 4)).block, (ad.add (j * 4)).off + 2, none⟩ = some (.float .f64 (rz l j).f2) ∧ w'.cell? ⟨(ad.add (j * 4)).block, (ad.add (j * 4)).off + 3, none⟩ = some (.string (rz l j).f3)) ∧ (w'.cell? ⟨g4, 0, none⟩ = some (.int .i64 v.f0) ∧ w'.cell? ⟨g4, 1, none⟩ = some (.int .i64 v.f1) ∧ w'.cell? ⟨g4, 2, none⟩ = some (.float .f64 v.f2) ∧ w'.cell? ⟨g4, 3, none⟩ = some (.string v.f3))) (ds := []) #[false, false, false, false, false, false, false, false, false, false, false] (by kernel_rfl) rfl rfl ⟨Kw.elt HS1.out.now.2.2.2.2.2.2.2.2.1 j HLT.out, cells_4 (HS1.out.now.2.2.2.2.2.2.2.1)⟩ (fun hHeld => ?_)
              clear HS
              have HS := HS1
              clear HS1
              generalize World.drew _ = z2 at HS hHeld ⊢
              refine pureP #[true, false, false, false, false, false, false, false, false, false, false] (by kernel_rfl) (i := 0) (N := some 184) ?_
              refine pureP #[true, true, false, false, false, false, false, false, false, false, false] (by kernel_rfl) (i := 1) (N := some 185) ?_
              refine pureP #[true, true, true, false, false, false, false, false, false, false, false] (by kernel_rfl) (i := 2) (N := some 186) ?_
              refine pureP #[true, true, true, true, false, false, false, false, false, false, false] (by kernel_rfl) (i := 3) (N := some 187) ?_
              refine takeP #[true, true, true, true, true, false, false, false, false, false, false] (by kernel_rfl) hHeld (i := 4) (N := some 188) ?_
              refine takeP #[true, true, true, true, true, false, true, false, false, false, false] (by kernel_rfl) hHeld (i := 6) (N := some 190) ?_
              refine one_ (i := 5) (N := some 189) #[true, true, true, true, true, true, true, false, false, false, false] rfl rfl (by kernel_rfl) (by decide) (fun K hK => ?_)
              refine goes_ Try.func28 (by kernel_rfl) rfl #[.int .i64 1, .agg #[.int .i64 (rz l j).f0, .int .i64 (rz l j).f1, .float .f64 (rz l j).f2, .string (rz l j).f3]] (by rfl) rfl rfl (by (try simp only [List.map_toArray, List.map_cons, List.map_nil]); first | done | rfl) ?_
              refine (Kw.comp (c := (rz l j)) 1).mono ?_
              rintro e_ w_ ⟨B1, b1, B2, b2, rfl, hb_⟩
              refine ⟨_, rfl, ?_⟩
              have HS1 := Aside0.mk (Std.step HS.out hb_)
              clear HS hb_
              have HS := HS1
              clear HS1
              refine hK.out _ _ ⟨Kw.elt HS.out.now.2.2.2.2.2.2.2.2.1 j HLT.out, cells_4 (HS.out.now.2.2.2.2.2.2.2.1)⟩ (fun hHeld => ?_)
              clear hK K
              refine norm_ (a' := ?_) ?_ ?_
              rotate_left
              · show Act.put _ (some 189) _ = _
                simp only [Act.put, List.setIfInBounds_toArray, List.set_cons_zero, List.set_cons_succ, i64_w, i32_w]
                rfl
              refine one_ (i := 7) (N := some 191) #[true, true, true, true, true, true, true, true, false, false, false] rfl rfl (by kernel_rfl) (by decide) (fun K hK => ?_)
              refine goes_ Try.func20 (by kernel_rfl) rfl #[.agg #[.int .i64 1, .string ⟨#[99]⟩, .int .i64 1, .int .i64 (rz l j).f0, .int .i64 (rz l j).f1, .float .f64 (rz l j).f2, .string (rz l j).f3, .slice B1 0 b1, .slice B2 0 b2], .agg #[.int .i64 v.f0, .int .i64 v.f1, .float .f64 v.f2, .string v.f3]] (by rfl) rfl rfl (by (try simp only [List.map_toArray, List.map_cons, List.map_nil]); first | done | rfl) ?_
              refine (Kw.test (c := (rz l j)) hv (hll _ (rz_mem j HLT.out)) MV.out 1).mono ?_
              rintro e_ w_ ⟨rfl, hb_⟩
              refine ⟨_, rfl, ?_⟩
              have HS1 := Aside0.mk (Std.step HS.out hb_)
              clear HS hb_
              have HS := HS1
              clear HS1
              refine hK.out _ _ ⟨Kw.elt HS.out.now.2.2.2.2.2.2.2.2.1 j HLT.out, cells_4 (HS.out.now.2.2.2.2.2.2.2.1)⟩ (fun hHeld => ?_)
              clear hK K
              refine norm_ (a' := ?_) ?_ ?_
              rotate_left
              · show Act.put _ (some 191) _ = _
                simp only [Act.put, List.setIfInBounds_toArray, List.set_cons_zero, List.set_cons_succ, i64_w, i32_w]
                rfl
              refine one_ (i := 8) (N := some 192) #[true, true, true, true, true, true, true, true, true, false, false] rfl rfl (by kernel_rfl) (by decide) (fun K hK => ?_)
              refine Kd.R_lit_step (Kd.int .i8) _ 41 (by rfl) (N := 192) ?hd (xs := ([orV v (anyV v (l.take j)), tV 1 v (rz l j)] : List Int)) (inner := [.int .i8 (orV v (anyV v (l.take j))), .int .i8 (tV 1 v (rz l j))]) (ok := fun _ => True) (okp := fun _ => True) ?hr ?hp (fun _ hk => hk) trivial (Below.refl _ _) (Nat.le_refl _) (by simp) ?_
              (case hd => rfl)
              (case hr => first | (go_simp; done) | (go_simp; rfl))
              (case hp => exact (Reps.one (show Kd.M (Kd.int .i8) _ _ _ (orV v (anyV v (l.take j))) [.int .i8 (orV v (anyV v (l.take j)))] from rfl) (Reps.one (show Kd.M (Kd.int .i8) _ _ _ (tV 1 v (rz l j)) [.int .i8 (tV 1 v (rz l j))] from rfl) (Reps.none _ _))))
              intro v_ w_ ho_ hb_ hg_ hnew_
              clear hg_ hnew_
              obtain ⟨Ar, cr, ev_⟩ := Kd.R_slice ho_
              replace ev_ : v_ = .slice Ar 2 cr := ev_
              subst ev_
              have HS1 := Aside0.mk (Std.and (Std.rowR ho_ rfl) (Std.step HS.out hb_))
              clear HS ho_ hb_
              have HS := HS1
              clear HS1
              refine hK.out _ _ ⟨Kw.elt HS.out.now.2.2.2.2.2.2.2.2.2.1 j HLT.out, cells_4 (HS.out.now.2.2.2.2.2.2.2.2.1)⟩ (fun hHeld => ?_)
              clear hK K
              refine norm_ (a' := ?_) ?_ ?_
              rotate_left
              · show Act.put _ (some 192) _ = _
                simp only [Act.put, List.setIfInBounds_toArray, List.set_cons_zero, List.set_cons_succ, i64_w, i32_w]
                rfl
              refine one_ (i := 9) (N := some 193) #[true, true, true, true, true, true, true, true, true, true, false] rfl rfl (by kernel_rfl) (by decide) (fun K hK => ?_)
              refine goes_ Try.func38 (by kernel_rfl) rfl #[.slice Ar 2 cr] (by rfl) rfl rfl (by (try simp only [List.map_toArray, List.map_cons, List.map_nil]); first | done | rfl) ?_
              refine (Kw.ort (orV_rg v _) (tV_range 1 v (rz l j)) HS.out.now.1.2 HS.out.now.1.1).mono ?_
              rintro e_ w_ ⟨rfl, hb_⟩
              rw [Kw.or_next v l j HLT.out]
              refine ⟨_, rfl, ?_⟩
              have HS1 := Aside0.mk (Std.step HS.out hb_)
              clear HS hb_
              have HS := HS1
              clear HS1
              refine hK.out _ _ ⟨Kw.elt HS.out.now.2.2.2.2.2.2.2.2.2.1 j HLT.out, cells_4 (HS.out.now.2.2.2.2.2.2.2.2.1)⟩ (fun hHeld => ?_)
              clear hK K
              refine norm_ (a' := ?_) ?_ ?_
              rotate_left
              · show Act.put _ (some 193) _ = _
                simp only [Act.put, List.setIfInBounds_toArray, List.set_cons_zero, List.set_cons_succ, i64_w, i32_w]
                rfl
              refine pureP #[true, true, true, true, true, true, true, true, true, true, true] (by kernel_rfl) (i := 10) (N := some 21) ?_
              refine done_ (by kernel_rfl) ?_
              clear hHeld
              go_wp2_with (fail)
              go_roundw
              case rel => exact ⟨j + 1, by omega, rfl, by go_num, Std.drop HS.out⟩
              case measure => simp [intOf]; omega
            · have p3 : decide ((j : Int) < (l.length : Int)) = false := decide_eq_false (by omega)
              have p4 : decide (j < l.length) = false := decide_eq_false hlt
              have htk : (orV v (anyV v l) == orV v (anyV v (List.take j l))) = true := by rw [List.take_of_length_le (by omega)]; exact beq_self_eq_true _
              clear hlt hj
              go_wp2_with (first | ((with_reducible refine gate_dst (N := 194) rfl ?_); refine ld_blk (d := (.struct _)) rfl 32 _ rfl (by rfl) (HS.out.now.2.2.1) hu32 rfl (by kernel_rfl) ?_) | ((with_reducible refine gate_dst (N := 195) rfl ?_); refine ld_blk (d := (.struct _)) rfl 28 _ rfl (by rfl) (HS.out.now.2.2.2.2.2.2.2.1) hu28 rfl (by kernel_rfl) ?_) | ((with_reducible refine gate_callee (f := 20) rfl ?_); (with_reducible refine gate_dst (N := 196) rfl ?_); refine goesL_ (some 196) rfl rfl Try.func20 (by kernel_rfl) rfl #[.agg #[.int .i64 2, .string ⟨#[99]⟩, .int .i64 0, .int .i64 0, .int .i64 0, .float .f64 0, .string ⟨#[]⟩, .slice Ai l.length ci, .slice none 0 0], .agg #[.int .i64 v.f0, .int .i64 v.f1, .float .f64 v.f2, .string v.f3]] rfl (by (try simp only [List.map_toArray, List.map_cons, List.map_nil]); first | done | rfl) ?_; refine (Kw.testL (l := l) 2 hv hll MV.out _ (inV l MV.out) HS.out.now.2.2.2.1).mono ?_; rintro e w_ ⟨rfl, hb_⟩; refine ⟨_, rfl, ?_⟩; have HS1 := Aside0.mk (Std.step HS.out hb_); clear HS; have HS := HS1; clear HS1; clear hb_))
              go_ret
              exact ⟨rfl, HS.out.now.2.2.2.2.2.2.2.2.2⟩
        · rw [if_neg v0] at hs6
          have v0b : (v.f0 == 0) = false := beq_eq_false_iff_ne.mpr v0
          have v0c : (v.f0 != 0) = true := bne_iff_ne.mpr v0
          have V0 := Aside0.mk v0
          clear v0
          (try rw [hs6])
          clear hs6
          go_upto_region 23 with (first | ((with_reducible refine gate_dst (N := 20) rfl ?_); refine box_event ?hg (N := 20) ?hd (cs := #[.int .i64 0, .string ⟨#[]⟩, .int .i64 0, .int .i64 0, .int .i64 0, .float .f64 0, .string ⟨#[]⟩, .slice none 0 0, .slice none 0 0]) (t := 32) ?hr ?_; (case hd => rfl); (case hg => rfl); (case hr => first | (go_simp; done) | (go_simp; rfl)); intro g20 hg_ y1 hbox hb_; have HG_ := Aside0.mk hg_; have HX_ := Aside0.mk hbox; have HY_ := Aside0.mk hb_; clear hg_ hbox hb_) | ((with_reducible refine gate_store (p := 20) rfl ?_); refine st_blk rfl 32 _ _ rfl rfl #[.int .i64 4, .string ⟨#[99]⟩, .int .i64 0, .int .i64 0, .int .i64 0, .float .f64 0, .string ⟨#[]⟩, .slice none 0 0, .slice none 0 0] (by rfl) (by rfl) HX_.out (by rfl) (by kernel_rfl) (by simp [Value.oneCell']) ?_; intro y2 hbox2 ho_; have hb2_ := Only.belowW ho_ HY_.out (Nat.le_of_eq HG_.out.symm); have HGg20 := HG_; clear HX_ HY_ HG_ ho_; have HS1 := Aside0.mk (Std.and (Std.blk hbox2) (Std.step HS.out hb2_)); clear HS; have HS := HS1; clear HS1; clear hb2_ hbox2) | ((with_reducible refine gate_dst (N := 134) rfl ?_); refine ld_fld rfl 3 _ rfl (.int .i64 v.f0) (by rfl) (HS.out.now.2.2.2.2.2.2.2.2.1) (by rfl) hui rfl ?_) | ((with_reducible refine gate_dst (N := 140) rfl ?_); refine gate_guard (by rfl) ?_; refine ld_blk (d := (.struct _)) rfl 32 _ rfl (by rfl) (HS.out.now.1) hu32 rfl (by kernel_rfl) ?_) | ((with_reducible refine gate_dst (N := 141) rfl ?_); refine gate_guard (by rfl) ?_; refine ld_blk (d := (.struct _)) rfl 28 _ rfl (by rfl) (HS.out.now.2.2.2.2.2.2.2.2.1) hu28 rfl (by kernel_rfl) ?_) | ((with_reducible refine gate_callee (f := 20) rfl ?_); (with_reducible refine gate_dst (N := 142) rfl ?_); refine gate_guard (by rfl) ?_; refine goesL_ (some 142) rfl rfl Try.func20 (by kernel_rfl) rfl #[.agg #[.int .i64 4, .string ⟨#[99]⟩, .int .i64 0, .int .i64 0, .int .i64 0, .float .f64 0, .string ⟨#[]⟩, .slice none 0 0, .slice none 0 0], .agg #[.int .i64 v.f0, .int .i64 v.f1, .float .f64 v.f2, .string v.f3]] rfl (by (try simp only [List.map_toArray, List.map_cons, List.map_nil]); first | done | rfl) ?_; refine (Kw.testL (l := []) 4 hv okn MV.out 0 ((nuV MV.out).trans (if_neg V0.out)) ⟨Nat.le_refl _, C_zero _ _ _⟩).mono ?_; rintro e w_ ⟨rfl, hb_⟩; refine ⟨_, rfl, ?_⟩; have HS1 := Aside0.mk (Std.step HS.out hb_); clear HS; have HS := HS1; clear HS1; clear hb_) | ((with_reducible refine gate_dst (N := 148) rfl ?_); refine gate_guard (by rfl) ?_; refine ld_fld rfl 3 _ rfl (.int .i64 v.f0) (by rfl) (HS.out.now.2.2.2.2.2.2.2.2.1) (by rfl) hui rfl ?_) | ((with_reducible refine gate_dst (N := 154) rfl ?_); refine gate_guard (by rfl) ?_; refine ld_blk (d := (.struct _)) rfl 32 _ rfl (by rfl) (HS.out.now.1) hu32 rfl (by kernel_rfl) ?_) | ((with_reducible refine gate_dst (N := 155) rfl ?_); refine gate_guard (by rfl) ?_; refine ld_blk (d := (.struct _)) rfl 28 _ rfl (by rfl) (HS.out.now.2.2.2.2.2.2.2.2.1) hu28 rfl (by kernel_rfl) ?_) | ((with_reducible refine gate_callee (f := 20) rfl ?_); (with_reducible refine gate_dst (N := 156) rfl ?_); refine gate_guard (by rfl) ?_; refine goesL_ (some 156) rfl rfl Try.func20 (by kernel_rfl) rfl #[.agg #[.int .i64 4, .string ⟨#[99]⟩, .int .i64 0, .int .i64 0, .int .i64 0, .float .f64 0, .string ⟨#[]⟩, .slice none 0 0, .slice none 0 0], .agg #[.int .i64 v.f0, .int .i64 v.f1, .float .f64 v.f2, .string v.f3]] rfl (by (try simp only [List.map_toArray, List.map_cons, List.map_nil]); first | done | rfl) ?_; refine (Kw.testL (l := []) 4 hv okn MV.out 0 ((nuV MV.out).trans (if_neg V0.out)) ⟨Nat.le_refl _, C_zero _ _ _⟩).mono ?_; rintro e w_ ⟨rfl, hb_⟩; refine ⟨_, rfl, ?_⟩; have HS1 := Aside0.mk (Std.step HS.out hb_); clear HS; have HS := HS1; clear HS1; clear hb_))
          have hnb : (kAnd (tV 6 v c) (tV 4 v d) != kAnd (tV 6 v c) (tV 4 v d)) = false := bne_self_eq_false _
          have HS1 := Aside0.mk (Std.step HS.out (below_drew1 (Below.refl _ _)))
          refine start_ (n := 14) (S := fun w' => ((w'.cell? ⟨g11, 0, none⟩ = some (.int .i64 3) ∧ w'.cell? ⟨g11, 1, none⟩ = some (.string ⟨#[99]⟩) ∧ w'.cell? ⟨g11, 2, none⟩ = some (.int .i64 0) ∧ w'.cell? ⟨g11, 3, none⟩ = some (.int .i64 0) ∧ w'.cell? ⟨g11, 4, none⟩ = some (.int .i64 0) ∧ w'.cell? ⟨g11, 5, none⟩ = some (.float .f64 0) ∧ w'.cell? ⟨g11, 6, none⟩ = some (.string ⟨#[]⟩) ∧ w'.cell? ⟨g11, 7, none⟩ = some (.slice Ab 2 cb) ∧ w'.cell? ⟨g11, 8, none⟩ = some (.slice none 0 0)) ∧ (w'.cell? ⟨g4, 0, none⟩ = some (.int .i64 v.f0) ∧ w'.cell? ⟨g4, 1, none⟩ = some (.int .i64 v.f1) ∧ w'.cell? ⟨g4, 2, none⟩ = some (.float .f64 v.f2) ∧ w'.cell? ⟨g4, 3, none⟩ = some (.string v.f3))) ∧ (w'.cell? ⟨g5, 0, none⟩ = some (.int .i64 c.f0) ∧ w'.cell? ⟨g5, 1, none⟩ = some (.int .i64 c.f1) ∧ w'.cell? ⟨g5, 2, none⟩ = some (.float .f64 c.f2) ∧ w'.cell? ⟨g5, 3, none⟩ = some (.string c.f3)) ∧ (w'.cell? ⟨g6, 0, none⟩ = some (.int .i64 d.f0) ∧ w'.cell? ⟨g6, 1, none⟩ = some (.int .i64 d.f1) ∧ w'.cell? ⟨g6, 2, none⟩ = some (.float .f64 d.f2) ∧ w'.cell? ⟨g6, 3, none⟩ = some (.string d.f3))) (ds := []) #[false, false, false, false, false, false, false, false, false, false, false, false, false, false] (by kernel_rfl) rfl rfl ⟨⟨cells_9 (HS1.out.now.2.1), cells_4 (HS1.out.now.2.2.2.2.2.2.2.2.1)⟩, cells_4 (HS1.out.now.2.2.2.2.2.2.2.1), cells_4 (HS1.out.now.2.2.2.2.2.2.1)⟩ (fun hHeld => ?_)
          clear HS
          have HS := HS1
          clear HS1
          generalize World.drew _ = z1 at HS hHeld ⊢
          refine takeP #[true, false, false, false, false, false, false, false, false, false, false, false, false, false] (by kernel_rfl) hHeld (i := 0) (N := some 161) ?_
          refine takeP #[true, true, false, false, false, false, false, false, false, false, false, false, false, false] (by kernel_rfl) hHeld (i := 1) (N := some 162) ?_
          refine takeP #[true, true, false, true, false, false, false, false, false, false, false, false, false, false] (by kernel_rfl) hHeld (i := 3) (N := some 164) ?_
          refine takeP #[true, true, false, true, false, true, false, false, false, false, false, false, false, false] (by kernel_rfl) hHeld (i := 5) (N := some 166) ?_
          refine takeP #[true, true, false, true, false, true, false, true, false, false, false, false, false, false] (by kernel_rfl) hHeld (i := 7) (N := some 168) ?_
          refine takeP #[true, true, false, true, false, true, false, true, false, true, false, false, false, false] (by kernel_rfl) hHeld (i := 9) (N := some 170) ?_
          refine one_ (i := 2) (N := some 163) #[true, true, true, true, false, true, false, true, false, true, false, false, false, false] rfl rfl (by kernel_rfl) (by decide) (fun K hK => ?_)
          refine goes_ Try.func20 (by kernel_rfl) rfl #[.agg #[.int .i64 3, .string ⟨#[99]⟩, .int .i64 0, .int .i64 0, .int .i64 0, .float .f64 0, .string ⟨#[]⟩, .slice Ab 2 cb, .slice none 0 0], .agg #[.int .i64 v.f0, .int .i64 v.f1, .float .f64 v.f2, .string v.f3]] (by rfl) rfl rfl (by (try simp only [List.map_toArray, List.map_cons, List.map_nil]); first | done | rfl) ?_
          refine (Kw.testL (l := [c, d]) 3 hv hcd MV.out _ (beV MV.out) HS.out.now.2.2.1).mono ?_
          rintro e_ w_ ⟨rfl, hb_⟩
          refine ⟨_, rfl, ?_⟩
          have HS1 := Aside0.mk (Std.step HS.out hb_)
          clear HS hb_
          have HS := HS1
          clear HS1
          refine hK.out _ _ ⟨⟨cells_9 (HS.out.now.2.1), cells_4 (HS.out.now.2.2.2.2.2.2.2.2.1)⟩, cells_4 (HS.out.now.2.2.2.2.2.2.2.1), cells_4 (HS.out.now.2.2.2.2.2.2.1)⟩ (fun hHeld => ?_)
          clear hK K
          refine norm_ (a' := ?_) ?_ ?_
          rotate_left
          · show Act.put _ (some 163) _ = _
            simp only [Act.put, List.setIfInBounds_toArray, List.set_cons_zero, List.set_cons_succ, i64_w, i32_w]
            rfl
          refine one_ (i := 4) (N := some 165) #[true, true, true, true, true, true, false, true, false, true, false, false, false, false] rfl rfl (by kernel_rfl) (by decide) (fun K hK => ?_)
          refine goes_ Try.func28 (by kernel_rfl) rfl #[.int .i64 6, .agg #[.int .i64 c.f0, .int .i64 c.f1, .float .f64 c.f2, .string c.f3]] (by rfl) rfl rfl (by (try simp only [List.map_toArray, List.map_cons, List.map_nil]); first | done | rfl) ?_
          refine (Kw.comp 6).mono ?_
          rintro e_ w_ ⟨B1, b1, B2, b2, rfl, hb_⟩
          refine ⟨_, rfl, ?_⟩
          have HS1 := Aside0.mk (Std.step HS.out hb_)
          clear HS hb_
          have HS := HS1
          clear HS1
          refine hK.out _ _ ⟨⟨cells_9 (HS.out.now.2.1), cells_4 (HS.out.now.2.2.2.2.2.2.2.2.1)⟩, cells_4 (HS.out.now.2.2.2.2.2.2.2.1), cells_4 (HS.out.now.2.2.2.2.2.2.1)⟩ (fun hHeld => ?_)
          clear hK K
          refine norm_ (a' := ?_) ?_ ?_
          rotate_left
          · show Act.put _ (some 165) _ = _
            simp only [Act.put, List.setIfInBounds_toArray, List.set_cons_zero, List.set_cons_succ, i64_w, i32_w]
            rfl
          refine one_ (i := 6) (N := some 167) #[true, true, true, true, true, true, true, true, false, true, false, false, false, false] rfl rfl (by kernel_rfl) (by decide) (fun K hK => ?_)
          refine goes_ Try.func20 (by kernel_rfl) rfl #[.agg #[.int .i64 1, .string ⟨#[99]⟩, .int .i64 6, .int .i64 c.f0, .int .i64 c.f1, .float .f64 c.f2, .string c.f3, .slice B1 0 b1, .slice B2 0 b2], .agg #[.int .i64 v.f0, .int .i64 v.f1, .float .f64 v.f2, .string v.f3]] (by rfl) rfl rfl (by (try simp only [List.map_toArray, List.map_cons, List.map_nil]); first | done | rfl) ?_
          refine (Kw.test hv hc MV.out 6).mono ?_
          rintro e_ w_ ⟨rfl, hb_⟩
          refine ⟨_, rfl, ?_⟩
          have HS1 := Aside0.mk (Std.step HS.out hb_)
          clear HS hb_
          have HS := HS1
          clear HS1
          refine hK.out _ _ ⟨⟨cells_9 (HS.out.now.2.1), cells_4 (HS.out.now.2.2.2.2.2.2.2.2.1)⟩, cells_4 (HS.out.now.2.2.2.2.2.2.2.1), cells_4 (HS.out.now.2.2.2.2.2.2.1)⟩ (fun hHeld => ?_)
          clear hK K
          refine norm_ (a' := ?_) ?_ ?_
          rotate_left
          · show Act.put _ (some 167) _ = _
            simp only [Act.put, List.setIfInBounds_toArray, List.set_cons_zero, List.set_cons_succ, i64_w, i32_w]
            rfl
          refine one_ (i := 8) (N := some 169) #[true, true, true, true, true, true, true, true, true, true, false, false, false, false] rfl rfl (by kernel_rfl) (by decide) (fun K hK => ?_)
          refine goes_ Try.func28 (by kernel_rfl) rfl #[.int .i64 4, .agg #[.int .i64 d.f0, .int .i64 d.f1, .float .f64 d.f2, .string d.f3]] (by rfl) rfl rfl (by (try simp only [List.map_toArray, List.map_cons, List.map_nil]); first | done | rfl) ?_
          refine (Kw.comp 4).mono ?_
          rintro e_ w_ ⟨B3, b3, B4, b4, rfl, hb_⟩
          refine ⟨_, rfl, ?_⟩
          have HS1 := Aside0.mk (Std.step HS.out hb_)
          clear HS hb_
          have HS := HS1
          clear HS1
          refine hK.out _ _ ⟨⟨cells_9 (HS.out.now.2.1), cells_4 (HS.out.now.2.2.2.2.2.2.2.2.1)⟩, cells_4 (HS.out.now.2.2.2.2.2.2.2.1), cells_4 (HS.out.now.2.2.2.2.2.2.1)⟩ (fun hHeld => ?_)
          clear hK K
          refine norm_ (a' := ?_) ?_ ?_
          rotate_left
          · show Act.put _ (some 169) _ = _
            simp only [Act.put, List.setIfInBounds_toArray, List.set_cons_zero, List.set_cons_succ, i64_w, i32_w]
            rfl
          refine one_ (i := 10) (N := some 171) #[true, true, true, true, true, true, true, true, true, true, true, false, false, false] rfl rfl (by kernel_rfl) (by decide) (fun K hK => ?_)
          refine goes_ Try.func20 (by kernel_rfl) rfl #[.agg #[.int .i64 1, .string ⟨#[99]⟩, .int .i64 4, .int .i64 d.f0, .int .i64 d.f1, .float .f64 d.f2, .string d.f3, .slice B3 0 b3, .slice B4 0 b4], .agg #[.int .i64 v.f0, .int .i64 v.f1, .float .f64 v.f2, .string v.f3]] (by rfl) rfl rfl (by (try simp only [List.map_toArray, List.map_cons, List.map_nil]); first | done | rfl) ?_
          refine (Kw.test hv hd MV.out 4).mono ?_
          rintro e_ w_ ⟨rfl, hb_⟩
          refine ⟨_, rfl, ?_⟩
          have HS1 := Aside0.mk (Std.step HS.out hb_)
          clear HS hb_
          have HS := HS1
          clear HS1
          refine hK.out _ _ ⟨⟨cells_9 (HS.out.now.2.1), cells_4 (HS.out.now.2.2.2.2.2.2.2.2.1)⟩, cells_4 (HS.out.now.2.2.2.2.2.2.2.1), cells_4 (HS.out.now.2.2.2.2.2.2.1)⟩ (fun hHeld => ?_)
          clear hK K
          refine norm_ (a' := ?_) ?_ ?_
          rotate_left
          · show Act.put _ (some 171) _ = _
            simp only [Act.put, List.setIfInBounds_toArray, List.set_cons_zero, List.set_cons_succ, i64_w, i32_w]
            rfl
          refine one_ (i := 11) (N := some 172) #[true, true, true, true, true, true, true, true, true, true, true, true, false, false] rfl rfl (by kernel_rfl) (by decide) (fun K hK => ?_)
          refine Kd.R_lit_step (Kd.int .i8) _ 41 (by rfl) (N := 172) ?hd (xs := ([tV 6 v c, tV 4 v d] : List Int)) (inner := [.int .i8 (tV 6 v c), .int .i8 (tV 4 v d)]) (ok := fun _ => True) (okp := fun _ => True) ?hr ?hp (fun _ hk => hk) trivial (Below.refl _ _) (Nat.le_refl _) (by simp) ?_
          (case hd => rfl)
          (case hr => first | (go_simp; done) | (go_simp; rfl))
          (case hp => exact (Reps.one (show Kd.M (Kd.int .i8) _ _ _ (tV 6 v c) [.int .i8 (tV 6 v c)] from rfl) (Reps.one (show Kd.M (Kd.int .i8) _ _ _ (tV 4 v d) [.int .i8 (tV 4 v d)] from rfl) (Reps.none _ _))))
          intro v_ w_ ho_ hb_ hg_ hnew_
          clear hg_ hnew_
          obtain ⟨Ar, cr, ev_⟩ := Kd.R_slice ho_
          replace ev_ : v_ = .slice Ar 2 cr := ev_
          subst ev_
          have HS1 := Aside0.mk (Std.and (Std.rowR ho_ rfl) (Std.step HS.out hb_))
          clear HS ho_ hb_
          have HS := HS1
          clear HS1
          refine hK.out _ _ ⟨⟨cells_9 (HS.out.now.2.2.1), cells_4 (HS.out.now.2.2.2.2.2.2.2.2.2.1)⟩, cells_4 (HS.out.now.2.2.2.2.2.2.2.2.1), cells_4 (HS.out.now.2.2.2.2.2.2.2.1)⟩ (fun hHeld => ?_)
          clear hK K
          refine norm_ (a' := ?_) ?_ ?_
          rotate_left
          · show Act.put _ (some 172) _ = _
            simp only [Act.put, List.setIfInBounds_toArray, List.set_cons_zero, List.set_cons_succ, i64_w, i32_w]
            rfl
          refine one_ (i := 12) (N := some 173) #[true, true, true, true, true, true, true, true, true, true, true, true, true, false] rfl rfl (by kernel_rfl) (by decide) (fun K hK => ?_)
          refine goes_ Try.func37 (by kernel_rfl) rfl #[.slice Ar 2 cr] (by rfl) rfl rfl (by (try simp only [List.map_toArray, List.map_cons, List.map_nil]); first | done | rfl) ?_
          refine (Kw.andt (tV_range _ _ _) (tV_range _ _ _) HS.out.now.1.2 HS.out.now.1.1).mono ?_
          rintro e_ w_ ⟨rfl, hb_⟩
          refine ⟨_, rfl, ?_⟩
          have HS1 := Aside0.mk (Std.step HS.out hb_)
          clear HS hb_
          have HS := HS1
          clear HS1
          refine hK.out _ _ ⟨⟨cells_9 (HS.out.now.2.2.1), cells_4 (HS.out.now.2.2.2.2.2.2.2.2.2.1)⟩, cells_4 (HS.out.now.2.2.2.2.2.2.2.2.1), cells_4 (HS.out.now.2.2.2.2.2.2.2.1)⟩ (fun hHeld => ?_)
          clear hK K
          refine norm_ (a' := ?_) ?_ ?_
          rotate_left
          · show Act.put _ (some 173) _ = _
            simp only [Act.put, List.setIfInBounds_toArray, List.set_cons_zero, List.set_cons_succ, i64_w, i32_w]
            rfl
          refine pureP #[true, true, true, true, true, true, true, true, true, true, true, true, true, true] (by kernel_rfl) (i := 13) (N := some 174) ?_
          refine done_ (by kernel_rfl) ?_
          clear hHeld
          go_wp2_with (first | ((with_reducible refine gate_dst (N := 176) rfl ?_); refine ld_fld rfl 3 _ rfl (.int .i64 v.f0) (by rfl) (HS.out.now.2.2.2.2.2.2.2.2.2.1) (by rfl) hui rfl ?_))
          have HS1 := Aside0.mk (Std.drop (Std.drop HS.out))
          clear HS
          have HS := HS1
          clear HS1
          go_loopw [21, 22] (fun s21 s22 wr => ∃ j : Nat, j ≤ l.length ∧ s21 = .int .i8 (orV v (anyV v (l.take j))) ∧ s22 = .int .i64 (j : Int) ∧ Std wr (Kw.Q w g4 g5 g6 g9 g10 g11 v c d l A3 Ai Ab c3 ci cb)) (fun _ i _ => l.length - (intOf i).toNat)
          case atStart => exact ⟨0, by omega, by rw [show orV v (anyV v (l.take 0)) = 0 from by unfold orV anyV; simp [V0.out]], rfl, HS.out⟩
          case round =>
            obtain ⟨j, hj, rfl, rfl, HS1⟩ := hrel
            clear HS
            have HS := Aside0.mk HS1
            clear HS1
            by_cases hlt : j < l.length
            · obtain ⟨ad, rfl⟩ := Kw.some_at HS.out.now.2.2.2.2.2.2.2.2.1 hlt
              have hm := HS.out.now.2.2.2.2.2.2.2.2.1.2.2.1
              have p1 : (0 : Int) ≤ (j : Int) := by omega
              have p2 : (j : Int) < (l.length : Int) := by omega
              have p3 : decide ((j : Int) < (l.length : Int)) = true := decide_eq_true p2
              have p4 : decide (j < l.length) = true := decide_eq_true hlt
              have HLT := Aside0.mk hlt
              go_upto_region 31 with (fail)
              have HS1 := Aside0.mk (Std.step HS.out (below_drew1 (Below.refl _ _)))
              refine start_ (n := 11) (S := fun w' => (w'.cell? (ad.add (j * 4)) = some (.int .i64 (rz l j).f0) ∧ w'.cell? ⟨(ad.add (j * 4)).block, (ad.add (j * 4)).off + 1, none⟩ = some (.int .i64 (rz l j).f1) ∧ w'.cell? ⟨(ad.add (j * 4)).block, (ad.add (j * 4)).off + 2, none⟩ = some (.float .f64 (rz l j).f2) ∧ w'.cell? ⟨(ad.add (j * 4)).block, (ad.add (j * 4)).off + 3, none⟩ = some (.string (rz l j).f3)) ∧ (w'.cell? ⟨g4, 0, none⟩ = some (.int .i64 v.f0) ∧ w'.cell? ⟨g4, 1, none⟩ = some (.int .i64 v.f1) ∧ w'.cell? ⟨g4, 2, none⟩ = some (.float .f64 v.f2) ∧ w'.cell? ⟨g4, 3, none⟩ = some (.string v.f3))) (ds := []) #[false, false, false, false, false, false, false, false, false, false, false] (by kernel_rfl) rfl rfl ⟨Kw.elt HS1.out.now.2.2.2.2.2.2.2.2.1 j HLT.out, cells_4 (HS1.out.now.2.2.2.2.2.2.2.1)⟩ (fun hHeld => ?_)
              clear HS
              have HS := HS1
              clear HS1
              generalize World.drew _ = z2 at HS hHeld ⊢
              refine pureP #[true, false, false, false, false, false, false, false, false, false, false] (by kernel_rfl) (i := 0) (N := some 184) ?_
              refine pureP #[true, true, false, false, false, false, false, false, false, false, false] (by kernel_rfl) (i := 1) (N := some 185) ?_
              refine pureP #[true, true, true, false, false, false, false, false, false, false, false] (by kernel_rfl) (i := 2) (N := some 186) ?_
              refine pureP #[true, true, true, true, false, false, false, false, false, false, false] (by kernel_rfl) (i := 3) (N := some 187) ?_
              refine takeP #[true, true, true, true, true, false, false, false, false, false, false] (by kernel_rfl) hHeld (i := 4) (N := some 188) ?_
              refine takeP #[true, true, true, true, true, false, true, false, false, false, false] (by kernel_rfl) hHeld (i := 6) (N := some 190) ?_
              refine one_ (i := 5) (N := some 189) #[true, true, true, true, true, true, true, false, false, false, false] rfl rfl (by kernel_rfl) (by decide) (fun K hK => ?_)
              refine goes_ Try.func28 (by kernel_rfl) rfl #[.int .i64 1, .agg #[.int .i64 (rz l j).f0, .int .i64 (rz l j).f1, .float .f64 (rz l j).f2, .string (rz l j).f3]] (by rfl) rfl rfl (by (try simp only [List.map_toArray, List.map_cons, List.map_nil]); first | done | rfl) ?_
              refine (Kw.comp (c := (rz l j)) 1).mono ?_
              rintro e_ w_ ⟨B1, b1, B2, b2, rfl, hb_⟩
              refine ⟨_, rfl, ?_⟩
              have HS1 := Aside0.mk (Std.step HS.out hb_)
              clear HS hb_
              have HS := HS1
              clear HS1
              refine hK.out _ _ ⟨Kw.elt HS.out.now.2.2.2.2.2.2.2.2.1 j HLT.out, cells_4 (HS.out.now.2.2.2.2.2.2.2.1)⟩ (fun hHeld => ?_)
              clear hK K
              refine norm_ (a' := ?_) ?_ ?_
              rotate_left
              · show Act.put _ (some 189) _ = _
                simp only [Act.put, List.setIfInBounds_toArray, List.set_cons_zero, List.set_cons_succ, i64_w, i32_w]
                rfl
              refine one_ (i := 7) (N := some 191) #[true, true, true, true, true, true, true, true, false, false, false] rfl rfl (by kernel_rfl) (by decide) (fun K hK => ?_)
              refine goes_ Try.func20 (by kernel_rfl) rfl #[.agg #[.int .i64 1, .string ⟨#[99]⟩, .int .i64 1, .int .i64 (rz l j).f0, .int .i64 (rz l j).f1, .float .f64 (rz l j).f2, .string (rz l j).f3, .slice B1 0 b1, .slice B2 0 b2], .agg #[.int .i64 v.f0, .int .i64 v.f1, .float .f64 v.f2, .string v.f3]] (by rfl) rfl rfl (by (try simp only [List.map_toArray, List.map_cons, List.map_nil]); first | done | rfl) ?_
              refine (Kw.test (c := (rz l j)) hv (hll _ (rz_mem j HLT.out)) MV.out 1).mono ?_
              rintro e_ w_ ⟨rfl, hb_⟩
              refine ⟨_, rfl, ?_⟩
              have HS1 := Aside0.mk (Std.step HS.out hb_)
              clear HS hb_
              have HS := HS1
              clear HS1
              refine hK.out _ _ ⟨Kw.elt HS.out.now.2.2.2.2.2.2.2.2.1 j HLT.out, cells_4 (HS.out.now.2.2.2.2.2.2.2.1)⟩ (fun hHeld => ?_)
              clear hK K
              refine norm_ (a' := ?_) ?_ ?_
              rotate_left
              · show Act.put _ (some 191) _ = _
                simp only [Act.put, List.setIfInBounds_toArray, List.set_cons_zero, List.set_cons_succ, i64_w, i32_w]
                rfl
              refine one_ (i := 8) (N := some 192) #[true, true, true, true, true, true, true, true, true, false, false] rfl rfl (by kernel_rfl) (by decide) (fun K hK => ?_)
              refine Kd.R_lit_step (Kd.int .i8) _ 41 (by rfl) (N := 192) ?hd (xs := ([orV v (anyV v (l.take j)), tV 1 v (rz l j)] : List Int)) (inner := [.int .i8 (orV v (anyV v (l.take j))), .int .i8 (tV 1 v (rz l j))]) (ok := fun _ => True) (okp := fun _ => True) ?hr ?hp (fun _ hk => hk) trivial (Below.refl _ _) (Nat.le_refl _) (by simp) ?_
              (case hd => rfl)
              (case hr => first | (go_simp; done) | (go_simp; rfl))
              (case hp => exact (Reps.one (show Kd.M (Kd.int .i8) _ _ _ (orV v (anyV v (l.take j))) [.int .i8 (orV v (anyV v (l.take j)))] from rfl) (Reps.one (show Kd.M (Kd.int .i8) _ _ _ (tV 1 v (rz l j)) [.int .i8 (tV 1 v (rz l j))] from rfl) (Reps.none _ _))))
              intro v_ w_ ho_ hb_ hg_ hnew_
              clear hg_ hnew_
              obtain ⟨Ar, cr, ev_⟩ := Kd.R_slice ho_
              replace ev_ : v_ = .slice Ar 2 cr := ev_
              subst ev_
              have HS1 := Aside0.mk (Std.and (Std.rowR ho_ rfl) (Std.step HS.out hb_))
              clear HS ho_ hb_
              have HS := HS1
              clear HS1
              refine hK.out _ _ ⟨Kw.elt HS.out.now.2.2.2.2.2.2.2.2.2.1 j HLT.out, cells_4 (HS.out.now.2.2.2.2.2.2.2.2.1)⟩ (fun hHeld => ?_)
              clear hK K
              refine norm_ (a' := ?_) ?_ ?_
              rotate_left
              · show Act.put _ (some 192) _ = _
                simp only [Act.put, List.setIfInBounds_toArray, List.set_cons_zero, List.set_cons_succ, i64_w, i32_w]
                rfl
              refine one_ (i := 9) (N := some 193) #[true, true, true, true, true, true, true, true, true, true, false] rfl rfl (by kernel_rfl) (by decide) (fun K hK => ?_)
              refine goes_ Try.func38 (by kernel_rfl) rfl #[.slice Ar 2 cr] (by rfl) rfl rfl (by (try simp only [List.map_toArray, List.map_cons, List.map_nil]); first | done | rfl) ?_
              refine (Kw.ort (orV_rg v _) (tV_range 1 v (rz l j)) HS.out.now.1.2 HS.out.now.1.1).mono ?_
              rintro e_ w_ ⟨rfl, hb_⟩
              rw [Kw.or_next v l j HLT.out]
              refine ⟨_, rfl, ?_⟩
              have HS1 := Aside0.mk (Std.step HS.out hb_)
              clear HS hb_
              have HS := HS1
              clear HS1
              refine hK.out _ _ ⟨Kw.elt HS.out.now.2.2.2.2.2.2.2.2.2.1 j HLT.out, cells_4 (HS.out.now.2.2.2.2.2.2.2.2.1)⟩ (fun hHeld => ?_)
              clear hK K
              refine norm_ (a' := ?_) ?_ ?_
              rotate_left
              · show Act.put _ (some 193) _ = _
                simp only [Act.put, List.setIfInBounds_toArray, List.set_cons_zero, List.set_cons_succ, i64_w, i32_w]
                rfl
              refine pureP #[true, true, true, true, true, true, true, true, true, true, true] (by kernel_rfl) (i := 10) (N := some 21) ?_
              refine done_ (by kernel_rfl) ?_
              clear hHeld
              go_wp2_with (fail)
              go_roundw
              case rel => exact ⟨j + 1, by omega, rfl, by go_num, Std.drop HS.out⟩
              case measure => simp [intOf]; omega
            · have p3 : decide ((j : Int) < (l.length : Int)) = false := decide_eq_false (by omega)
              have p4 : decide (j < l.length) = false := decide_eq_false hlt
              have htk : (orV v (anyV v l) == orV v (anyV v (List.take j l))) = true := by rw [List.take_of_length_le (by omega)]; exact beq_self_eq_true _
              clear hlt hj
              go_wp2_with (first | ((with_reducible refine gate_dst (N := 194) rfl ?_); refine ld_blk (d := (.struct _)) rfl 32 _ rfl (by rfl) (HS.out.now.2.2.1) hu32 rfl (by kernel_rfl) ?_) | ((with_reducible refine gate_dst (N := 195) rfl ?_); refine ld_blk (d := (.struct _)) rfl 28 _ rfl (by rfl) (HS.out.now.2.2.2.2.2.2.2.1) hu28 rfl (by kernel_rfl) ?_) | ((with_reducible refine gate_callee (f := 20) rfl ?_); (with_reducible refine gate_dst (N := 196) rfl ?_); refine goesL_ (some 196) rfl rfl Try.func20 (by kernel_rfl) rfl #[.agg #[.int .i64 2, .string ⟨#[99]⟩, .int .i64 0, .int .i64 0, .int .i64 0, .float .f64 0, .string ⟨#[]⟩, .slice Ai l.length ci, .slice none 0 0], .agg #[.int .i64 v.f0, .int .i64 v.f1, .float .f64 v.f2, .string v.f3]] rfl (by (try simp only [List.map_toArray, List.map_cons, List.map_nil]); first | done | rfl) ?_; refine (Kw.testL (l := l) 2 hv hll MV.out _ (inV l MV.out) HS.out.now.2.2.2.1).mono ?_; rintro e w_ ⟨rfl, hb_⟩; refine ⟨_, rfl, ?_⟩; have HS1 := Aside0.mk (Std.step HS.out hb_); clear HS; have HS := HS1; clear HS1; clear hb_))
              go_ret
              exact ⟨rfl, HS.out.now.2.2.2.2.2.2.2.2.2⟩
theorem Walk.AtomKleene (a0 a1 : Int) (a2 : Nat) (a3 : ByteArray) (b0 b1 : Int) (b2 : Nat) (b3 : ByteArray) (d0 d1 : Int) (d2 : Nat) (d3 : ByteArray) (A3 : Option Addr) (c3 : Nat) (l : List S28) (W : World) (hC : Kd.C k28 W A3 l.length l) (hl : l.length ≤ c3) (h0 : okS28 ⟨a0, a1, a2, a3⟩) (h1 : okS28 ⟨b0, b1, b2, b3⟩) (h2 : okS28 ⟨d0, d1, d2, d3⟩) (h3 : l.length * 40 ≤ 140737488351232 ∧ ∀ y0_ ∈ l, okS28 y0_) :
    Calls Try.prog 11 #[.agg #[.int .i64 a0, .int .i64 a1, .float .f64 a2, .string a3], .agg #[.int .i64 b0, .int .i64 b1, .float .f64 b2, .string b3], .agg #[.int .i64 d0, .int .i64 d1, .float .f64 d2, .string d3], .slice A3 l.length c3] W fun e w' => e = .returned (.bool true) ∧ Below W.heap.size W w' :=
  Kw.walk ⟨a0, a1, a2, a3⟩ ⟨b0, b1, b2, b3⟩ ⟨d0, d1, d2, d3⟩ A3 c3 l W hC hl (F.wf_word h0.2.2.1) (F.wf_word h1.2.2.1) (F.wf_word h2.2.2.1) (fun x hx => F.wf_word (h3.2 x hx).2.2.1)
    (fun x hx => by
      rcases List.mem_cons.1 hx with rfl | hx
      · exact F.wf_word h1.2.2.1
      · rcases List.mem_cons.1 hx with rfl | hx
        · exact F.wf_word h2.2.2.1
        · simp at hx)
    ⟨by
      unfold colonnadelaw18_values.f
      rw [if_pos (by simp; omega)]
      rfl⟩
end Go.Proofs.Ytkedejphebfneaa.Pa
