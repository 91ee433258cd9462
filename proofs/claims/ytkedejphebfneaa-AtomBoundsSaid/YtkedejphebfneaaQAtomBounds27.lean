/- The texts of AtomBounds, merged: part 27. -/
import Derived.Test.YtkedejphebfneaaQAtomBounds25
import Derived.Test.YtkedejphebfneaaQAtomBounds26
import Derived.Test.YtkedejphebfneaaQAtomBounds16
import Derived.Test.YtkedejphebfneaaQAtomBounds24
import Derived.Deep.DeepCutAuto
import Derived.RegionTactic
import Derived.ChangeAlike
/- colonnaderef18.Bounds, its walk by hand. -/
namespace Go.Proofs.Ytkedejphebfneaa.Pa
open Go.Proofs.Ytkedejphebfneaa.L Go.RowKit Go.Proofs.YtkedejphebfneaaW.PrintWords Go.Proofs.YtkedejphebfneaaW.PrintLast Go.Proofs.YtkedejphebfneaaW.PrintMore
set_option linter.unusedVariables false
set_option linter.unusedSimpArgs false
attribute [local go_sem] run_store_float cmp_feq cmp_fne cmp_flt cmp_fle cmp_fgt cmp_fge un_fneg equalIn_feq run_fop run_fint run_freal cmp_sgt
def rbT (k : Nat) : S28 → S28 → List S28 → Option (S28 × S28)
 | lo, hi, [] => some (lo, hi)
 | lo, hi, c :: cs => (colonnaderef18_Compare.f k c.f0 c.f1 c.f2 c.f3 lo.f0 lo.f1 lo.f2 lo.f3).bind fun x => (colonnaderef18_Compare.f k c.f0 c.f1 c.f2 c.f3 hi.f0 hi.f1 hi.f2 hi.f3).bind fun y => rbT k (if x < 0 then c else lo) (if y > 0 then c else hi) cs
theorem rbT_mono (k : Nat) : ∀ (l : List S28) (lo hi : S28), LeO (rbT k lo hi l) (rbT (k + 1) lo hi l)
 | [], _, _ => LeO.refl _
 | c :: cs, lo, hi => by
  rw [rbT, rbT]
  exact LeO.bind (colonnaderef18_Compare.mono _ _ _ _ _ _ _ _ _) (fun x => LeO.bind (colonnaderef18_Compare.mono _ _ _ _ _ _ _ _ _) (fun y => rbT_mono k cs _ _))
abbrev T9 := Int × Int × Nat × ByteArray × Int × Int × Nat × ByteArray × Bool
abbrev t9 (a b : S28) (o : Bool) : T9 := (a.f0, a.f1, a.f2, a.f3, b.f0, b.f1, b.f2, b.f3, o)
abbrev zV : S28 := ⟨0, 0, 0, ⟨#[]⟩⟩
def rbN (k : Nat) (e1 e2 a0 a2 a3 a4 : Int) (a5 : Nat) (a6 : ByteArray) (l : List S28) : Option T9 :=
 if e1 ≠ 0 ∧ e2 ≠ 0 then some (t9 zV zV false)
 else if a0 = 4 then some (t9 zV zV false)
 else if a0 = 2 then (if a2 = 0 then (if l.length = 0 then some (t9 zV zV false) else (rbT k (rd_T28 l 0) (rd_T28 l 0) l).bind fun q => some (t9 q.1 q.2 true)) else none)
 else if a0 = 5 then (if a2 = 0 then some (t9 ⟨a3, a4, a5, a6⟩ zV true) else none)
 else if a0 = 3 then (if a2 = 0 then (if 1 < l.length then some (t9 (rd_T28 l 0) (rd_T28 l 1) true) else none) else none)
 else if a0 = 1 then (if a2 = 1 then some (t9 ⟨a3, a4, a5, a6⟩ ⟨a3, a4, a5, a6⟩ true) else if a2 = 2 then some (t9 zV zV false) else if a2 = 3 ∨ a2 = 4 then some (t9 zV ⟨a3, a4, a5, a6⟩ true) else if a2 = 5 ∨ a2 = 6 then some (t9 ⟨a3, a4, a5, a6⟩ zV true) else none)
 else none
def colonnaderef18_Bounds.f (k : Nat) (a0 : Int) (a1 : ByteArray) (a2 a3 a4 : Int) (a5 : Nat) (a6 : ByteArray) (l7 : List S28) (l8 : List S32) : Option T9 :=
 (colonnaderef18_Check.f k [⟨a1, 1, false⟩] a0 a1 a2 a3 a4 a5 a6 l7 l8).bind fun e1 => (colonnaderef18_Check.f k [⟨a1, 2, false⟩] a0 a1 a2 a3 a4 a5 a6 l7 l8).bind fun e2 => rbN k e1 e2 a0 a2 a3 a4 a5 a6 l7
theorem colonnaderef18_Bounds.mono (a0 : Int) (a1 : ByteArray) (a2 a3 a4 : Int) (a5 : Nat) (a6 : ByteArray) (l7 : List S28) (l8 : List S32) (k : Nat) : LeO (colonnaderef18_Bounds.f k a0 a1 a2 a3 a4 a5 a6 l7 l8) (colonnaderef18_Bounds.f (k + 1) a0 a1 a2 a3 a4 a5 a6 l7 l8) := by
 unfold colonnaderef18_Bounds.f
 refine LeO.bind (colonnaderef18_Check.mono _ _ _ _ _ _ _ _ _ _ _) (fun e1 => LeO.bind (colonnaderef18_Check.mono _ _ _ _ _ _ _ _ _ _ _) (fun e2 => ?_))
 unfold rbN
 exact LeO.ite (LeO.refl _) (LeO.ite (LeO.refl _) (LeO.ite (LeO.ite (LeO.ite (LeO.refl _) (LeO.bind (rbT_mono _ _ _ _) (fun _ => LeO.refl _))) (LeO.refl _)) (LeO.refl _)))
theorem then_normal {K : Act → World → Prop} {Q : Exit → Act → World → Prop} {a : Act} {w : World} (h : K a w) : Exit.then K Q Exit.normal a w := h
theorem then_ret {K : Act → World → Prop} {Q : Exit → Act → World → Prop} {a : Act} {w : World} (h : Q .ret a w) : Exit.then K Q Exit.ret a w := h
theorem drop_rdb (l : List S28) (j : Nat) (h : j < l.length) : l.drop j = rd_T28 l (j : Int) :: l.drop (j + 1) := by
 rw [List.drop_eq_getElem_cons h]
 congr 1
 unfold rd_T28
 simp [List.getD_eq_getElem?_getD, List.getElem?_eq_getElem h]
theorem el_at {W : World} {ad : Addr} {n : Nat} {l : List S28} (h : Kd.C k28 W (some ad) n l) {j : Nat} (hj : j < n) : W.cell? (ad.add (j * 4)) = some (.int .i64 (rd_T28 l (j : Int)).f0) ∧ W.cell? ⟨(ad.add (j * 4)).block, (ad.add (j * 4)).off + 1, none⟩ = some (.int .i64 (rd_T28 l (j : Int)).f1) ∧ W.cell? ⟨(ad.add (j * 4)).block, (ad.add (j * 4)).off + 2, none⟩ = some (.float .f64 (rd_T28 l (j : Int)).f2) ∧ W.cell? ⟨(ad.add (j * 4)).block, (ad.add (j * 4)).off + 3, none⟩ = some (.string (rd_T28 l (j : Int)).f3) := by
 obtain ⟨ad_, e_, h0, h1, h2, h3⟩ := at_T28 h (j : Int) (by omega) (by omega)
 cases e_
 rw [Int.toNat_natCast] at h0 h1 h2 h3
 exact ⟨h0, h1, h2, h3⟩
theorem el_0 {W : World} {ad : Addr} {n : Nat} {l : List S28} (h : Kd.C k28 W (some ad) n l) (hj : 0 < n) : W.cell? ad = some (.int .i64 (rd_T28 l 0).f0) ∧ W.cell? ⟨ad.block, ad.off + 1, none⟩ = some (.int .i64 (rd_T28 l 0).f1) ∧ W.cell? ⟨ad.block, ad.off + 2, none⟩ = some (.float .f64 (rd_T28 l 0).f2) ∧ W.cell? ⟨ad.block, ad.off + 3, none⟩ = some (.string (rd_T28 l 0).f3) := by
 have := el_at h hj
 rw [show ad.add (0 * 4) = ad from rfl] at this
 exact this
theorem el_1 {W : World} {ad : Addr} {n : Nat} {l : List S28} (h : Kd.C k28 W (some ad) n l) (hj : 1 < n) : W.cell? (⟨ad.block, ad.off + 4, none⟩ : Addr) = some (.int .i64 (rd_T28 l 1).f0) ∧ W.cell? ⟨(⟨ad.block, ad.off + 4, none⟩ : Addr).block, (⟨ad.block, ad.off + 4, none⟩ : Addr).off + 1, none⟩ = some (.int .i64 (rd_T28 l 1).f1) ∧ W.cell? ⟨(⟨ad.block, ad.off + 4, none⟩ : Addr).block, (⟨ad.block, ad.off + 4, none⟩ : Addr).off + 2, none⟩ = some (.float .f64 (rd_T28 l 1).f2) ∧ W.cell? ⟨(⟨ad.block, ad.off + 4, none⟩ : Addr).block, (⟨ad.block, ad.off + 4, none⟩ : Addr).off + 3, none⟩ = some (.string (rd_T28 l 1).f3) := by
 have := el_at h hj
 rw [show ad.add (1 * 4) = ⟨ad.block, ad.off + 4, none⟩ from rfl] at this
 exact this
structure RbL (w : World) (g1 g2 g3 g8 g9 : Nat) (cp : Array Value) (lo hi : S28) (W : World) : Prop where
 hb : Below w.heap.size w W
 b1 : W.heap[g1]? = some (.cells cp 32 (0, 0))
 b2 : W.heap[g2]? = some (.cells #[.int .i64 0, .int .i64 0, .float .f64 0, .string ⟨#[]⟩] 28 (0, 0))
 b3 : W.heap[g3]? = some (.cells #[.int .i64 0, .int .i64 0, .float .f64 0, .string ⟨#[]⟩] 28 (0, 0))
 b8 : W.heap[g8]? = some (.cells #[.int .i64 lo.f0, .int .i64 lo.f1, .float .f64 lo.f2, .string lo.f3] 28 (0, 0))
 b9 : W.heap[g9]? = some (.cells #[.int .i64 hi.f0, .int .i64 hi.f1, .float .f64 hi.f2, .string hi.f3] 28 (0, 0))
 ge : w.heap.size ≤ g2 ∧ w.heap.size ≤ g3 ∧ w.heap.size ≤ g8 ∧ w.heap.size ≤ g9
 ne : g1 ≠ g8 ∧ g2 ≠ g8 ∧ g3 ≠ g8 ∧ g9 ≠ g8 ∧ g1 ≠ g9 ∧ g2 ≠ g9 ∧ g3 ≠ g9 ∧ g8 ≠ g9
section
variable {w W W' : World} {g1 g2 g3 g8 g9 : Nat} {cp : Array Value} {lo hi c : S28}
theorem RbL.below (h : RbL w g1 g2 g3 g8 g9 cp lo hi W) (hb : Below W.heap.size W W') : RbL w g1 g2 g3 g8 g9 cp lo hi W' := ⟨below_step h.hb hb, blk_below h.b1 hb, blk_below h.b2 hb, blk_below h.b3 hb, blk_below h.b8 hb, blk_below h.b9 hb, h.ge, h.ne⟩
theorem RbL.std (h : RbL w g1 g2 g3 g8 g9 cp lo hi W) : Std W (fun W => RbL w g1 g2 g3 g8 g9 cp lo hi W) := fun _ hb => h.below hb
theorem RbL.set8 (h : RbL w g1 g2 g3 g8 g9 cp lo hi W) (hx : W'.heap[g8]? = some (.cells #[.int .i64 c.f0, .int .i64 c.f1, .float .f64 c.f2, .string c.f3] 28 (0, 0))) (ho : Only W W' g8) : RbL w g1 g2 g3 g8 g9 cp c hi W' :=
 ⟨ho.below h.hb h.ge.2.2.1, ho.blk h.b1 h.ne.1, ho.blk h.b2 h.ne.2.1, ho.blk h.b3 h.ne.2.2.1, hx, ho.blk h.b9 h.ne.2.2.2.1, h.ge, h.ne⟩
theorem RbL.set9 (h : RbL w g1 g2 g3 g8 g9 cp lo hi W) (hx : W'.heap[g9]? = some (.cells #[.int .i64 c.f0, .int .i64 c.f1, .float .f64 c.f2, .string c.f3] 28 (0, 0))) (ho : Only W W' g9) : RbL w g1 g2 g3 g8 g9 cp lo c W' :=
 ⟨ho.below h.hb h.ge.2.2.2, ho.blk h.b1 h.ne.2.2.2.2.1, ho.blk h.b2 h.ne.2.2.2.2.2.1, ho.blk h.b3 h.ne.2.2.2.2.2.2.1, ho.blk h.b8 h.ne.2.2.2.2.2.2.2, hx, h.ge, h.ne⟩
end
theorem t9_inj {a b : S28} {o : Bool} {r1 r2 : Int} {r3 : Nat} {r4 : ByteArray} {r5 r6 : Int} {r7 : Nat} {r8 : ByteArray} {r9 : Bool} (h : some (t9 a b o) = some (r1, r2, r3, r4, r5, r6, r7, r8, r9)) : a.f0 = r1 ∧ a.f1 = r2 ∧ a.f2 = r3 ∧ a.f3 = r4 ∧ b.f0 = r5 ∧ b.f1 = r6 ∧ b.f2 = r7 ∧ b.f3 = r8 ∧ o = r9 := by
 have := Option.some.inj h
 simp only [t9, Prod.mk.injEq] at this
 exact this
set_option maxHeartbeats 16000000 in
set_option maxRecDepth 100000 in
theorem colonnaderef18_Bounds.calls (k : Nat) (a0 : Int) (a1 : ByteArray) (a2 a3 a4 : Int) (a5 : Nat) (a6 : ByteArray) (A7 : Option Addr) (c7 : Nat) (l7 : List S28) (A8 : Option Addr) (c8 : Nat) (l8 : List S32) (r1 r2 : Int) (r3 : Nat) (r4 : ByteArray) (r5 r6 : Int) (r7 : Nat) (r8 : ByteArray) (r9 : Bool) (w : World) (hr7 : Kd.C k28 w A7 l7.length l7) (hc7 : l7.length ≤ c7) (hr8 : Kd.C k32 w A8 l8.length l8) (hc8 : l8.length ≤ c8) (h : colonnaderef18_Bounds.f k a0 a1 a2 a3 a4 a5 a6 l7 l8 = some (r1, r2, r3, r4, r5, r6, r7, r8, r9)) :
  Calls Try.prog 24 #[.agg #[.int .i64 a0, .string a1, .int .i64 a2, .int .i64 a3, .int .i64 a4, .float .f64 a5, .string a6, .slice A7 l7.length c7, .slice A8 l8.length c8]] w fun e w' => e = .returned (.tuple #[.agg #[.int .i64 r1, .int .i64 r2, .float .f64 r3, .string r4], .agg #[.int .i64 r5, .int .i64 r6, .float .f64 r7, .string r8], .bool r9]) ∧ Below w.heap.size w w' := by
 have hu9 := Try.underlying9
 have hu32 := Try.underlying32
 have hu28 := Try.underlying28
 have hui := Try.underlying3
 have hu25 := Try.underlying25
 unfold colonnaderef18_Bounds.f at h
 obtain ⟨e1, h1, hq⟩ := Option.bind_eq_some_iff.1 h
 clear h
 obtain ⟨e2, h2, h⟩ := Option.bind_eq_some_iff.1 hq
 clear hq
 have F1 := Aside0.mk h1
 have F2 := Aside0.mk h2
 have H := Aside0.mk h
 clear h1 h2 h
 have HS := Aside0.mk (Std.and (Std.rowC hc7 hr7) (Std.and (Std.rowC hc8 hr8) (Std.bel (Below.refl w.heap.size w))))
 have HR0 := Aside0.mk hr7
 have hm64 : l7.length ≤ 9223372036854775807 := hr7.2.1
 clear hr7 hc7 hr8 hc8
 go_enter Try.func24, Try.ntmps24
 go_upto_region 2 with (first | ((with_reducible refine gate_dst (N := 1) rfl ?_); refine box_event ?hg (N := 1) ?hd (cs := #[.int .i64 a0, .string a1, .int .i64 a2, .int .i64 a3, .int .i64 a4, .float .f64 a5, .string a6, .slice A7 l7.length c7, .slice A8 l8.length c8]) (t := 32) ?hr ?_; (case hd => rfl); (case hg => rfl); (case hr => first | (go_simp; done) | (go_simp; rfl)); intro g1 hg_ w1 hbox hb_; have HG_ := Aside0.mk hg_; have HX_ := Aside0.mk hbox; have HY_ := Aside0.mk hb_; clear hg_ hbox hb_; have HGg1 := HG_; have HS1 := Aside0.mk (Std.and (Std.blk HX_.out) (Std.step HS.out HY_.out)); clear HS; have HS := HS1; clear HS1; clear HX_ HY_ HG_) | ((with_reducible refine gate_dst (N := 2) rfl ?_); refine box_event ?hg (N := 2) ?hd (cs := #[.int .i64 0, .int .i64 0, .float .f64 0, .string ⟨#[]⟩]) (t := 28) ?hr ?_; (case hd => rfl); (case hg => rfl); (case hr => first | (go_simp; done) | (go_simp; rfl)); intro g2 hg_ w2 hbox hb_; have HG_ := Aside0.mk hg_; have HX_ := Aside0.mk hbox; have HY_ := Aside0.mk hb_; clear hg_ hbox hb_; have HN2 : Aside0 (w.heap.size ≤ g2 ∧ g1 < g2) := ⟨by have s0_ := blk_lt HS.out.now.1; have s1_ := (HS.out.now.2.2.2).size; have q_ := HG_.out; omega⟩; have HS1 := Aside0.mk (Std.and (Std.blk HX_.out) (Std.step HS.out HY_.out)); clear HS; have HS := HS1; clear HS1; clear HX_ HY_ HG_) | ((with_reducible refine gate_dst (N := 3) rfl ?_); refine box_event ?hg (N := 3) ?hd (cs := #[.int .i64 0, .int .i64 0, .float .f64 0, .string ⟨#[]⟩]) (t := 28) ?hr ?_; (case hd => rfl); (case hg => rfl); (case hr => first | (go_simp; done) | (go_simp; rfl)); intro g3 hg_ w3 hbox hb_; have HG_ := Aside0.mk hg_; have HX_ := Aside0.mk hbox; have HY_ := Aside0.mk hb_; clear hg_ hbox hb_; have HN3 : Aside0 (w.heap.size ≤ g3 ∧ g1 < g3 ∧ g2 < g3) := ⟨by have s0_ := blk_lt HS.out.now.1; have s1_ := blk_lt HS.out.now.2.1; have s2_ := (HS.out.now.2.2.2.2).size; have q_ := HG_.out; omega⟩; have HS1 := Aside0.mk (Std.and (Std.blk HX_.out) (Std.step HS.out HY_.out)); clear HS; have HS := HS1; clear HS1; clear HX_ HY_ HG_) | ((with_reducible refine gate_dst (N := 5) rfl ?_); refine box_event ?hg (N := 5) ?hd (cs := #[.int .i64 0, .int .i64 0, .float .f64 0, .string ⟨#[]⟩]) (t := 28) ?hr ?_; (case hd => rfl); (case hg => rfl); (case hr => first | (go_simp; done) | (go_simp; rfl)); intro g5 hg_ w5 hbox hb_; have HG_ := Aside0.mk hg_; have HX_ := Aside0.mk hbox; have HY_ := Aside0.mk hb_; clear hg_ hbox hb_; have HN5 : Aside0 (g1 < g5 ∧ g2 < g5 ∧ g3 < g5) := ⟨by have s0_ := blk_lt HS.out.now.1; have s1_ := blk_lt HS.out.now.2.1; have s2_ := blk_lt HS.out.now.2.2.1; have q_ := HG_.out; omega⟩; have HS1 := Aside0.mk (Std.and (Std.blk HX_.out) (Std.step HS.out HY_.out)); clear HS; have HS := HS1; clear HS1; clear HX_ HY_ HG_))
 have HNE : Aside0 ((w.heap.size ≤ g2 ∧ w.heap.size ≤ g3) ∧ (g2 ≠ g3 ∧ g5 ≠ g2 ∧ g5 ≠ g3 ∧ g1 ≠ g2 ∧ g1 ≠ g3)) := ⟨by have a_ := HN2.out; have b_ := HN3.out; have c_ := HN5.out; omega⟩
 clear HGg1 HN2 HN3 HN5
 go_upto_region 3 with (first | ((with_reducible refine gate_dst (N := 12) rfl ?_); refine ld_fld rfl 9 _ rfl (.string a1) (by rfl) (HS.out.now.2.2.2.1) (by rfl) hu9 rfl ?_) | ((with_reducible refine gate_dst (N := 14) rfl ?_); refine Kd.R_lit k23 _ 23 ?hg (N := 14) ?hd (xs := ([⟨a1, 1, false⟩] : List S23)) (inner := [.string a1, .int .i64 1, .bool false]) (ok := fun _ => True) (okp := fun _ => True) ?hr ?hp (fun _ hk => hk) trivial (Below.refl _ _) (Nat.le_refl _) (by simp) ?_; (case hd => rfl); (case hg => rfl); (case hr => first | (go_simp; done) | (go_simp; rfl)); (case hp => exact (Reps.c3 (show Kd.M k23 _ _ _ (⟨a1, 1, false⟩ : S23) [.string a1, .int .i64 1, .bool false] from (k23_mkM _ _ _ (⟨a1, 1, false⟩ : S23))) (Reps.none _ _))); intro v_ w_ ho_ hb_ hg_ hnew_; clear hg_ hnew_; obtain ⟨Ac, cAc, ev_⟩ := Kd.R_slice ho_; replace ev_ : v_ = .slice Ac 1 cAc := ev_; subst ev_; have HS1 := Aside0.mk (Std.and (Std.rowR ho_ rfl) (Std.step HS.out hb_)); clear HS ho_ hb_; have HS := HS1; clear HS1) | ((with_reducible refine gate_dst (N := 15) rfl ?_); refine ld_blk (d := (.struct _)) rfl 32 _ rfl (by rfl) (HS.out.now.2.2.2.2.1) hu32 rfl (by kernel_rfl) ?_) | ((with_reducible refine gate_callee (f := 17) rfl ?_); (with_reducible refine gate_dst (N := 16) rfl ?_); refine goesQ 16 Try.func17 #[.slice Ac 1 cAc, .agg #[.int .i64 a0, .string a1, .int .i64 a2, .int .i64 a3, .int .i64 a4, .float .f64 a5, .string a6, .slice A7 l7.length c7, .slice A8 l8.length c8]] ?_; refine (colonnaderef18_Check.calls k Ac cAc [⟨a1, 1, false⟩] a0 a1 a2 a3 a4 a5 a6 A7 c7 l7 A8 c8 l8 e1 _ HS.out.now.1.2 HS.out.now.1.1 HS.out.now.2.2.2.2.2.1.2 HS.out.now.2.2.2.2.2.1.1 HS.out.now.2.2.2.2.2.2.1.2 HS.out.now.2.2.2.2.2.2.1.1 F1.out).mono ?_; rintro e w_ ⟨rfl, hb_⟩; refine ⟨_, rfl, ?_⟩; have HS1 := Aside0.mk (Std.step HS.out hb_); clear HS; have HS := HS1; clear HS1; clear hb_))
 go_upto_region 4 with (first | ((with_reducible refine gate_dst (N := 18) rfl ?_); refine ld_fld rfl 9 _ rfl (.string a1) (by rfl) (HS.out.now.2.2.2.2.1) (by rfl) hu9 rfl ?_) | ((with_reducible refine gate_dst (N := 20) rfl ?_); refine Kd.R_lit k23 _ 23 ?hg (N := 20) ?hd (xs := ([⟨a1, 2, false⟩] : List S23)) (inner := [.string a1, .int .i64 2, .bool false]) (ok := fun _ => True) (okp := fun _ => True) ?hr ?hp (fun _ hk => hk) trivial (Below.refl _ _) (Nat.le_refl _) (by simp) ?_; (case hd => rfl); (case hg => rfl); (case hr => first | (go_simp; done) | (go_simp; rfl)); (case hp => exact (Reps.c3 (show Kd.M k23 _ _ _ (⟨a1, 2, false⟩ : S23) [.string a1, .int .i64 2, .bool false] from (k23_mkM _ _ _ (⟨a1, 2, false⟩ : S23))) (Reps.none _ _))); intro v_ w_ ho_ hb_ hg_ hnew_; clear hg_ hnew_; obtain ⟨Ad, cAd, ev_⟩ := Kd.R_slice ho_; replace ev_ : v_ = .slice Ad 1 cAd := ev_; subst ev_; have HS1 := Aside0.mk (Std.and (Std.rowR ho_ rfl) (Std.step HS.out hb_)); clear HS ho_ hb_; have HS := HS1; clear HS1) | ((with_reducible refine gate_dst (N := 21) rfl ?_); refine ld_blk (d := (.struct _)) rfl 32 _ rfl (by rfl) (HS.out.now.2.2.2.2.2.1) hu32 rfl (by kernel_rfl) ?_) | ((with_reducible refine gate_callee (f := 17) rfl ?_); (with_reducible refine gate_dst (N := 22) rfl ?_); refine goesQ 22 Try.func17 #[.slice Ad 1 cAd, .agg #[.int .i64 a0, .string a1, .int .i64 a2, .int .i64 a3, .int .i64 a4, .float .f64 a5, .string a6, .slice A7 l7.length c7, .slice A8 l8.length c8]] ?_; refine (colonnaderef18_Check.calls k Ad cAd [⟨a1, 2, false⟩] a0 a1 a2 a3 a4 a5 a6 A7 c7 l7 A8 c8 l8 e2 _ HS.out.now.1.2 HS.out.now.1.1 HS.out.now.2.2.2.2.2.2.1.2 HS.out.now.2.2.2.2.2.2.1.1 HS.out.now.2.2.2.2.2.2.2.1.2 HS.out.now.2.2.2.2.2.2.2.1.1 F2.out).mono ?_; rintro e w_ ⟨rfl, hb_⟩; refine ⟨_, rfl, ?_⟩; have HS1 := Aside0.mk (Std.step HS.out hb_); clear HS; have HS := HS1; clear HS1; clear hb_))
 have HF := Aside0.mk HS.out.now
 clear HS F1 F2
 have h := H.out
 clear H
 unfold rbN at h
 by_cases hz : e1 ≠ 0 ∧ e2 ≠ 0
 ·rw [if_pos hz] at h
  obtain ⟨rfl, rfl, rfl, rfl, rfl, rfl, rfl, rfl, rfl⟩ := t9_inj h
  have z1 : (e1 != 0) = true := bne_iff_ne.mpr hz.1
  have z2 : (e2 != 0) = true := bne_iff_ne.mpr hz.2
  have z3 : (e1 == 0) = false := beq_eq_false_iff_ne.mpr hz.1
  have z4 : (e2 == 0) = false := beq_eq_false_iff_ne.mpr hz.2
  clear hz h
  obtain ⟨p0, p1, p2, p3, p4, p5, p6, p7, p8⟩ := pcells HF.out.2.2.2.2.2.1
  obtain ⟨_, q23, q52, q53, q12, q13⟩ := HNE.out
  have q32 := q23.symm
  have ge_ := HNE.out.1
  go_wp2_with (fail)
  clear p0 p1 p2 p3 p4 p5 p6 p7 p8
  rename_i kk_ hkk_
  have A2 := Aside0.mk (HF.out.2.2.2.2.1)
  have A3 := Aside0.mk (HF.out.2.2.2.1)
  have Ag5 := Aside0.mk (HF.out.2.2.1)
  have AW := Aside0.mk (HF.out.2.2.2.2.2.2.2.2)
  have HS := Aside0.mk (Std.and (Std.blk Ag5.out) (Std.and (Std.blk A2.out) (Std.and (Std.blk A3.out) (Std.bel AW.out))))
  have HS1 := Aside0.mk (Std.step HS.out (below_drew1 (Below.refl _ _)))
  refine start_ (n := 5) (S := fun w' => (w'.cell? ⟨g5, 0, none⟩ = some (.int .i64 0) ∧ w'.cell? ⟨g5, 1, none⟩ = some (.int .i64 0) ∧ w'.cell? ⟨g5, 2, none⟩ = some (.float .f64 0) ∧ w'.cell? ⟨g5, 3, none⟩ = some (.string ⟨#[]⟩))) (ds := []) #[false, false, false, false, false] (by kernel_rfl) rfl rfl (cells_4 (HS1.out.now.1)) (fun hHeld => ?_)
  clear HS
  have HS := HS1
  clear HS1
  generalize World.drew _ = zr at HS hHeld ⊢
  refine takeP #[true, false, false, false, false] (by kernel_rfl) hHeld (i := 0) (N := some 50) ?_
  refine takeP #[true, true, false, false, false] (by kernel_rfl) hHeld (i := 1) (N := some 51) ?_
  refine one_ (i := 2) (N := none) #[true, true, true, false, false] rfl rfl (by kernel_rfl) (by decide) (fun K hK => ?_)
  refine st_blk_step (by rfl) 28 _ _ rfl rfl (g := g2) #[.int .i64 0, .int .i64 0, .float .f64 0, .string ⟨#[]⟩] (by rfl) (by rfl) HS.out.now.2.1 (by rfl) (by kernel_rfl) (by simp [Value.oneCell']) ?_
  intro r2w hx_ ho_
  have B2 := Aside0.mk hx_
  have B3 := Aside0.mk (ho_.blk HS.out.now.2.2.1 q32)
  have Bg5 := Aside0.mk (ho_.blk HS.out.now.1 q52)
  have BW := Aside0.mk (ho_.below HS.out.now.2.2.2 ge_.1)
  clear HS hx_ ho_
  refine hK.out _ _ (cells_4 (Bg5.out)) (fun hHeld => ?_)
  clear hK K
  refine norm_ (a' := ?_) ?_ ?_
  rotate_left
  ·show Act.put _ (none) _ = _
   simp only [Act.put, List.setIfInBounds_toArray, List.set_cons_zero, List.set_cons_succ, i64_w, i32_w]
   rfl
  refine one_ (i := 3) (N := none) #[true, true, true, true, false] rfl rfl (by kernel_rfl) (by decide) (fun K hK => ?_)
  refine st_blk_step (by rfl) 28 _ _ rfl rfl (g := g3) #[.int .i64 0, .int .i64 0, .float .f64 0, .string ⟨#[]⟩] (by rfl) (by rfl) B3.out (by rfl) (by kernel_rfl) (by simp [Value.oneCell']) ?_
  intro r3w hx_ ho_
  have C2 := Aside0.mk (ho_.blk B2.out q23)
  have C3 := Aside0.mk hx_
  have Cg5 := Aside0.mk (ho_.blk Bg5.out q53)
  have CW := Aside0.mk (ho_.below BW.out ge_.2)
  clear B2 B3 BW hx_ ho_
  refine hK.out _ _ (cells_4 (Cg5.out)) (fun hHeld => ?_)
  clear hK K
  refine norm_ (a' := ?_) ?_ ?_
  rotate_left
  ·show Act.put _ (none) _ = _
   simp only [Act.put, List.setIfInBounds_toArray, List.set_cons_zero, List.set_cons_succ, i64_w, i32_w]
   rfl
  refine pureP #[true, true, true, true, true] (by kernel_rfl) (i := 4) (N := some 4) ?_
  refine done_ (by kernel_rfl) ?_
  clear hHeld
  refine then_normal ?_
  refine hkk_ _ _ (wp_ret ?_)
  (repeat refine then_ret ?_)
  refine bodyPost_ret (results_list (rs := [.cell 2 28, .cell 3 28, .tmp 4]) rfl (by simp) (.cell g2 28 #[_, _, _, _] (0, 0) _ rfl C2.out Try.underlying28 rfl (by kernel_rfl) (.cell g3 28 #[_, _, _, _] (0, 0) _ rfl C3.out Try.underlying28 rfl (by kernel_rfl) (.tmp .nil)))) rfl ?_
  exact ⟨rfl, CW.out⟩
 rw [if_neg hz] at h
 have hzz : (e1 = 0) ∨ (e1 ≠ 0 ∧ e2 = 0) := by by_cases q : e1 = 0; exact Or.inl q; exact Or.inr ⟨q, by by_cases q2 : e2 = 0; exact q2; exact absurd ⟨q, q2⟩ hz⟩
 clear hz
 by_cases hA4 : a0 = 4
 ·subst hA4
  rw [if_pos rfl] at h
  obtain ⟨rfl, rfl, rfl, rfl, rfl, rfl, rfl, rfl, rfl⟩ := t9_inj h
  clear h
  rcases hzz with rfl | ⟨hz1, rfl⟩
  rotate_left
  have z1 : (e1 != 0) = true := bne_iff_ne.mpr hz1
  have z3 : (e1 == 0) = false := beq_eq_false_iff_ne.mpr hz1
  clear hz1
  rotate_left
  all_goals
   obtain ⟨p0, p1, p2, p3, p4, p5, p6, p7, p8⟩ := pcells HF.out.2.2.2.2.2.1
   obtain ⟨_, q23, q52, q53, q12, q13⟩ := HNE.out
   have q32 := q23.symm
   have ge_ := HNE.out.1
   go_wp2_with (fail)
   clear p0 p1 p2 p3 p4 p5 p6 p7 p8
   rename_i kk_ hkk_
   have A2 := Aside0.mk (HF.out.2.2.2.2.1)
   have A3 := Aside0.mk (HF.out.2.2.2.1)
   have Ag5 := Aside0.mk (HF.out.2.2.1)
   have AW := Aside0.mk (HF.out.2.2.2.2.2.2.2.2)
   have HS := Aside0.mk (Std.and (Std.blk Ag5.out) (Std.and (Std.blk A2.out) (Std.and (Std.blk A3.out) (Std.bel AW.out))))
   have HS1 := Aside0.mk (Std.step HS.out (below_drew1 (Below.refl _ _)))
   refine start_ (n := 5) (S := fun w' => (w'.cell? ⟨g5, 0, none⟩ = some (.int .i64 0) ∧ w'.cell? ⟨g5, 1, none⟩ = some (.int .i64 0) ∧ w'.cell? ⟨g5, 2, none⟩ = some (.float .f64 0) ∧ w'.cell? ⟨g5, 3, none⟩ = some (.string ⟨#[]⟩))) (ds := []) #[false, false, false, false, false] (by kernel_rfl) rfl rfl (cells_4 (HS1.out.now.1)) (fun hHeld => ?_)
   clear HS
   have HS := HS1
   clear HS1
   generalize World.drew _ = zr at HS hHeld ⊢
   refine takeP #[true, false, false, false, false] (by kernel_rfl) hHeld (i := 0) (N := some 50) ?_
   refine takeP #[true, true, false, false, false] (by kernel_rfl) hHeld (i := 1) (N := some 51) ?_
   refine one_ (i := 2) (N := none) #[true, true, true, false, false] rfl rfl (by kernel_rfl) (by decide) (fun K hK => ?_)
   refine st_blk_step (by rfl) 28 _ _ rfl rfl (g := g2) #[.int .i64 0, .int .i64 0, .float .f64 0, .string ⟨#[]⟩] (by rfl) (by rfl) HS.out.now.2.1 (by rfl) (by kernel_rfl) (by simp [Value.oneCell']) ?_
   intro r2w hx_ ho_
   have B2 := Aside0.mk hx_
   have B3 := Aside0.mk (ho_.blk HS.out.now.2.2.1 q32)
   have Bg5 := Aside0.mk (ho_.blk HS.out.now.1 q52)
   have BW := Aside0.mk (ho_.below HS.out.now.2.2.2 ge_.1)
   clear HS hx_ ho_
   refine hK.out _ _ (cells_4 (Bg5.out)) (fun hHeld => ?_)
   clear hK K
   refine norm_ (a' := ?_) ?_ ?_
   rotate_left
   ·show Act.put _ (none) _ = _
    simp only [Act.put, List.setIfInBounds_toArray, List.set_cons_zero, List.set_cons_succ, i64_w, i32_w]
    rfl
   refine one_ (i := 3) (N := none) #[true, true, true, true, false] rfl rfl (by kernel_rfl) (by decide) (fun K hK => ?_)
   refine st_blk_step (by rfl) 28 _ _ rfl rfl (g := g3) #[.int .i64 0, .int .i64 0, .float .f64 0, .string ⟨#[]⟩] (by rfl) (by rfl) B3.out (by rfl) (by kernel_rfl) (by simp [Value.oneCell']) ?_
   intro r3w hx_ ho_
   have C2 := Aside0.mk (ho_.blk B2.out q23)
   have C3 := Aside0.mk hx_
   have Cg5 := Aside0.mk (ho_.blk Bg5.out q53)
   have CW := Aside0.mk (ho_.below BW.out ge_.2)
   clear B2 B3 BW hx_ ho_
   refine hK.out _ _ (cells_4 (Cg5.out)) (fun hHeld => ?_)
   clear hK K
   refine norm_ (a' := ?_) ?_ ?_
   rotate_left
   ·show Act.put _ (none) _ = _
    simp only [Act.put, List.setIfInBounds_toArray, List.set_cons_zero, List.set_cons_succ, i64_w, i32_w]
    rfl
   refine pureP #[true, true, true, true, true] (by kernel_rfl) (i := 4) (N := some 4) ?_
   refine done_ (by kernel_rfl) ?_
   clear hHeld
   refine then_normal ?_
   refine hkk_ _ _ (wp_ret ?_)
   (repeat refine then_ret ?_)
   refine bodyPost_ret (results_list (rs := [.cell 2 28, .cell 3 28, .tmp 4]) rfl (by simp) (.cell g2 28 #[_, _, _, _] (0, 0) _ rfl C2.out Try.underlying28 rfl (by kernel_rfl) (.cell g3 28 #[_, _, _, _] (0, 0) _ rfl C3.out Try.underlying28 rfl (by kernel_rfl) (.tmp .nil)))) rfl ?_
   exact ⟨rfl, CW.out⟩
 rw [if_neg hA4] at h
 by_cases hA2 : a0 = 2
 ·subst hA2
  rw [if_pos rfl] at h
  by_cases hB : a2 = 0
  rotate_left
  ·rw [if_neg hB] at h; cases h
  subst hB
  rw [if_pos rfl] at h
  by_cases hl : l7.length = 0
  ·rw [if_pos hl] at h
   obtain ⟨rfl, rfl, rfl, rfl, rfl, rfl, rfl, rfl, rfl⟩ := t9_inj h
   have hl1 : ((l7.length : Int) == 0) = true := by simpa using hl
   have hl2 : (l7.length == 0) = true := by simpa using hl
   clear h hl
   rcases hzz with rfl | ⟨hz1, rfl⟩
   rotate_left
   have z1 : (e1 != 0) = true := bne_iff_ne.mpr hz1
   have z3 : (e1 == 0) = false := beq_eq_false_iff_ne.mpr hz1
   clear hz1
   rotate_left
   all_goals
    obtain ⟨p0, p1, p2, p3, p4, p5, p6, p7, p8⟩ := pcells HF.out.2.2.2.2.2.1
    obtain ⟨_, q23, q52, q53, q12, q13⟩ := HNE.out
    have q32 := q23.symm
    have ge_ := HNE.out.1
    go_wp2_with (fail)
    clear p0 p1 p2 p3 p4 p5 p6 p7 p8
    rename_i kk_ hkk_
    have A2 := Aside0.mk (HF.out.2.2.2.2.1)
    have A3 := Aside0.mk (HF.out.2.2.2.1)
    have Ag5 := Aside0.mk (HF.out.2.2.1)
    have AW := Aside0.mk (HF.out.2.2.2.2.2.2.2.2)
    have HS := Aside0.mk (Std.and (Std.blk Ag5.out) (Std.and (Std.blk A2.out) (Std.and (Std.blk A3.out) (Std.bel AW.out))))
    have HS1 := Aside0.mk (Std.step HS.out (below_drew1 (Below.refl _ _)))
    refine start_ (n := 5) (S := fun w' => (w'.cell? ⟨g5, 0, none⟩ = some (.int .i64 0) ∧ w'.cell? ⟨g5, 1, none⟩ = some (.int .i64 0) ∧ w'.cell? ⟨g5, 2, none⟩ = some (.float .f64 0) ∧ w'.cell? ⟨g5, 3, none⟩ = some (.string ⟨#[]⟩))) (ds := []) #[false, false, false, false, false] (by kernel_rfl) rfl rfl (cells_4 (HS1.out.now.1)) (fun hHeld => ?_)
    clear HS
    have HS := HS1
    clear HS1
    generalize World.drew _ = zr at HS hHeld ⊢
    refine takeP #[true, false, false, false, false] (by kernel_rfl) hHeld (i := 0) (N := some 50) ?_
    refine takeP #[true, true, false, false, false] (by kernel_rfl) hHeld (i := 1) (N := some 51) ?_
    refine one_ (i := 2) (N := none) #[true, true, true, false, false] rfl rfl (by kernel_rfl) (by decide) (fun K hK => ?_)
    refine st_blk_step (by rfl) 28 _ _ rfl rfl (g := g2) #[.int .i64 0, .int .i64 0, .float .f64 0, .string ⟨#[]⟩] (by rfl) (by rfl) HS.out.now.2.1 (by rfl) (by kernel_rfl) (by simp [Value.oneCell']) ?_
    intro r2w hx_ ho_
    have B2 := Aside0.mk hx_
    have B3 := Aside0.mk (ho_.blk HS.out.now.2.2.1 q32)
    have Bg5 := Aside0.mk (ho_.blk HS.out.now.1 q52)
    have BW := Aside0.mk (ho_.below HS.out.now.2.2.2 ge_.1)
    clear HS hx_ ho_
    refine hK.out _ _ (cells_4 (Bg5.out)) (fun hHeld => ?_)
    clear hK K
    refine norm_ (a' := ?_) ?_ ?_
    rotate_left
    ·show Act.put _ (none) _ = _
     simp only [Act.put, List.setIfInBounds_toArray, List.set_cons_zero, List.set_cons_succ, i64_w, i32_w]
     rfl
    refine one_ (i := 3) (N := none) #[true, true, true, true, false] rfl rfl (by kernel_rfl) (by decide) (fun K hK => ?_)
    refine st_blk_step (by rfl) 28 _ _ rfl rfl (g := g3) #[.int .i64 0, .int .i64 0, .float .f64 0, .string ⟨#[]⟩] (by rfl) (by rfl) B3.out (by rfl) (by kernel_rfl) (by simp [Value.oneCell']) ?_
    intro r3w hx_ ho_
    have C2 := Aside0.mk (ho_.blk B2.out q23)
    have C3 := Aside0.mk hx_
    have Cg5 := Aside0.mk (ho_.blk Bg5.out q53)
    have CW := Aside0.mk (ho_.below BW.out ge_.2)
    clear B2 B3 BW hx_ ho_
    refine hK.out _ _ (cells_4 (Cg5.out)) (fun hHeld => ?_)
    clear hK K
    refine norm_ (a' := ?_) ?_ ?_
    rotate_left
    ·show Act.put _ (none) _ = _
     simp only [Act.put, List.setIfInBounds_toArray, List.set_cons_zero, List.set_cons_succ, i64_w, i32_w]
     rfl
    refine pureP #[true, true, true, true, true] (by kernel_rfl) (i := 4) (N := some 4) ?_
    refine done_ (by kernel_rfl) ?_
    clear hHeld
    refine then_normal ?_
    refine hkk_ _ _ (wp_ret ?_)
    (repeat refine then_ret ?_)
    refine bodyPost_ret (results_list (rs := [.cell 2 28, .cell 3 28, .tmp 4]) rfl (by simp) (.cell g2 28 #[_, _, _, _] (0, 0) _ rfl C2.out Try.underlying28 rfl (by kernel_rfl) (.cell g3 28 #[_, _, _, _] (0, 0) _ rfl C3.out Try.underlying28 rfl (by kernel_rfl) (.tmp .nil)))) rfl ?_
    exact ⟨rfl, CW.out⟩
  ·rw [if_neg hl] at h
   obtain ⟨⟨plo, phi⟩, hT, hq⟩ := Option.bind_eq_some_iff.1 h
   clear h
   have h := hq
   clear hq
   obtain ⟨rfl, rfl, rfl, rfl, rfl, rfl, rfl, rfl, rfl⟩ := t9_inj h
   clear h
   have hl1 : ((l7.length : Int) == 0) = false := by simpa using hl
   have hl2 : (l7.length == 0) = false := by simpa using hl
   have hpos : 0 < l7.length := by omega
   have HTT := Aside0.mk hT
   have HPOS := Aside0.mk hpos
   clear hT hl
   rcases hzz with rfl | ⟨hz1, rfl⟩
   rotate_left
   have z1 : (e1 != 0) = true := bne_iff_ne.mpr hz1
   have z3 : (e1 == 0) = false := beq_eq_false_iff_ne.mpr hz1
   clear hz1
   rotate_left
   all_goals
    obtain ⟨ad, rfl, _, _, _, _⟩ := at_T28 HF.out.2.2.2.2.2.2.1.2 0 (by omega) (by have := HPOS.out; omega)
    have p1_ : (0 : Int) < (l7.length : Int) := by omega
    have p2_ : decide (0 < l7.length) = true := decide_eq_true hpos
    have p3_ : decide ((0 : Int) < (l7.length : Int)) = true := decide_eq_true p1_
    obtain ⟨p0, p1, p2, p3, p4, p5, p6, p7, p8⟩ := pcells HF.out.2.2.2.2.2.1
    go_upto_region 14 with (fail)
    clear p0 p1 p2 p3 p4 p5 p6 p7 p8 hl1 hl2
    obtain ⟨x0, x1, x2, x3⟩ := el_0 HF.out.2.2.2.2.2.2.1.2 hpos
    have p7 := (blk_cell HF.out.2.2.2.2.2.1 7).trans rfl
    go_upto_region 15 with (first | ((with_reducible refine gate_dst (N := 8) rfl ?_); refine box_event ?hg (N := 8) ?hd (cs := #[.int .i64 0, .int .i64 0, .float .f64 0, .string ⟨#[]⟩]) (t := 28) ?hr ?_; (case hd => rfl); (case hg => rfl); (case hr => first | (go_simp; done) | (go_simp; rfl)); intro g8 hg_ y1 hbox hb_; have HG_ := Aside0.mk hg_; have HX_ := Aside0.mk hbox; have HY_ := Aside0.mk hb_; clear hg_ hbox hb_) | ((with_reducible refine gate_store (p := 8) rfl ?_); refine st_blk rfl 28 _ _ rfl rfl #[.int .i64 (rd_T28 l7 0).f0, .int .i64 (rd_T28 l7 0).f1, .float .f64 (rd_T28 l7 0).f2, .string (rd_T28 l7 0).f3] (by rfl) (by rfl) HX_.out (by rfl) (by kernel_rfl) (by simp [Value.oneCell']) ?_; intro y2 hbox2 ho_; have hb2_ := Only.belowW ho_ HY_.out (Nat.le_of_eq HG_.out.symm); have HGg8 := HG_; clear HX_ HY_ HG_ ho_; have HBt := Aside0.mk hb2_; have HXt := Aside0.mk hbox2; clear hb2_ hbox2))
    have HN8 : Aside0 (g1 ≠ g8 ∧ g2 ≠ g8 ∧ g3 ≠ g8 ∧ w.heap.size ≤ g8) := ⟨by have a1_ := blk_lt HF.out.2.2.2.2.2.1; have a2_ := blk_lt HF.out.2.2.2.2.1; have a3_ := blk_lt HF.out.2.2.2.1; have a4_ := HF.out.2.2.2.2.2.2.2.2.size; have a5_ := HGg8.out; omega⟩
    have hb8 := HBt.out
    have HS : Aside0 (Std _ _) := Aside0.mk (Std.and (Std.blk HXt.out) (Std.and (Std.blk (blk_below HF.out.2.2.2.1 hb8)) (Std.and (Std.blk (blk_below HF.out.2.2.2.2.1 hb8)) (Std.and (Std.blk (blk_below HF.out.2.2.2.2.2.1 hb8)) (Std.and (Std.rowC HF.out.2.2.2.2.2.2.1.1 (Kd.C_below HF.out.2.2.2.2.2.2.1.2 hb8)) (Std.bel (below_step HF.out.2.2.2.2.2.2.2.2 hb8)))))))
    clear HXt HBt HGg8 hb8 HF x0 x1 x2 x3 p7
    obtain ⟨x0, x1, x2, x3⟩ := el_0 HS.out.now.2.2.2.2.1.2 hpos
    have p7 := (blk_cell HS.out.now.2.2.2.1 7).trans rfl
    go_upto_region 16 with (first | ((with_reducible refine gate_dst (N := 9) rfl ?_); refine box_event ?hg (N := 9) ?hd (cs := #[.int .i64 0, .int .i64 0, .float .f64 0, .string ⟨#[]⟩]) (t := 28) ?hr ?_; (case hd => rfl); (case hg => rfl); (case hr => first | (go_simp; done) | (go_simp; rfl)); intro g9 hg_ y3 hbox hb_; have HG_ := Aside0.mk hg_; have HX_ := Aside0.mk hbox; have HY_ := Aside0.mk hb_; clear hg_ hbox hb_) | ((with_reducible refine gate_store (p := 9) rfl ?_); refine st_blk rfl 28 _ _ rfl rfl #[.int .i64 (rd_T28 l7 0).f0, .int .i64 (rd_T28 l7 0).f1, .float .f64 (rd_T28 l7 0).f2, .string (rd_T28 l7 0).f3] (by rfl) (by rfl) HX_.out (by rfl) (by kernel_rfl) (by simp [Value.oneCell']) ?_; intro y4 hbox2 ho_; have hb2_ := Only.belowW ho_ HY_.out (Nat.le_of_eq HG_.out.symm); have HGg9 := HG_; clear HX_ HY_ HG_ ho_; have HBt := Aside0.mk hb2_; have HXt := Aside0.mk hbox2; clear hb2_ hbox2))
    have HN9 : Aside0 (g1 ≠ g9 ∧ g2 ≠ g9 ∧ g3 ≠ g9 ∧ g8 ≠ g9 ∧ w.heap.size ≤ g9) := ⟨by have a1_ := blk_lt HS.out.now.2.2.2.1; have a2_ := blk_lt HS.out.now.2.2.1; have a3_ := blk_lt HS.out.now.2.1; have a4_ := blk_lt HS.out.now.1; have a5_ := HGg9.out; have a6_ := (HS.out.now.2.2.2.2.2).size; omega⟩
    have hb9 := HBt.out
    have HT : Aside0 (RbL w g1 g2 g3 g8 g9 #[.int .i64 2, .string a1, .int .i64 0, .int .i64 a3, .int .i64 a4, .float .f64 a5, .string a6, .slice (some ad) l7.length c7, .slice A8 l8.length c8] (rd_T28 l7 0) (rd_T28 l7 0) _) := Aside0.mk ⟨below_step HS.out.now.2.2.2.2.2 hb9, blk_below HS.out.now.2.2.2.1 hb9, blk_below HS.out.now.2.2.1 hb9, blk_below HS.out.now.2.1 hb9, blk_below HS.out.now.1 hb9, HXt.out, ⟨HNE.out.1.1, HNE.out.1.2, HN8.out.2.2.2, HN9.out.2.2.2.2⟩, ⟨HN8.out.1, HN8.out.2.1, HN8.out.2.2.1, HN9.out.2.2.2.1.symm, HN9.out.1, HN9.out.2.1, HN9.out.2.2.1, HN9.out.2.2.2.1⟩⟩
    clear HXt HBt HGg9 hb9 HS x0 x1 x2 x3 p7 HN8 HN9 p1_ p2_ p3_
    go_wp2_with (fail)
    go_loopw [10] (fun s10 wr => ∃ (j : Nat) (lo hi : S28), j ≤ l7.length ∧ s10 = .int .i64 (j : Int) ∧ Aside0 (rbT k lo hi (l7.drop j) = some (plo, phi)) ∧ Aside0 (RbL w g1 g2 g3 g8 g9 #[.int .i64 2, .string a1, .int .i64 0, .int .i64 a3, .int .i64 a4, .float .f64 a5, .string a6, .slice (some ad) l7.length c7, .slice A8 l8.length c8] lo hi wr)) (fun i _ => l7.length - (intOf i).toNat)
    case atStart => exact ⟨0, _, _, by omega, rfl, HTT, HT⟩
    case round =>
     clear HT HTT
     obtain ⟨j, lo, hi, hj, rfl, HTT, HT⟩ := hrel
     by_cases hlj : j < l7.length
     ·have hT := HTT.out
      clear HTT
      rw [drop_rdb l7 j hlj, rbT] at hT
      obtain ⟨x, hx, hq⟩ := Option.bind_eq_some_iff.1 hT
      clear hT
      obtain ⟨y, hy, hT⟩ := Option.bind_eq_some_iff.1 hq
      clear hq
      have F1 := Aside0.mk hx
      have F2 := Aside0.mk hy
      have HTT := Aside0.mk hT
      clear hx hy hT
      have p1_ : (0 : Int) ≤ (j : Int) := by omega
      have p2_ : (j : Int) < (l7.length : Int) := by omega
      have p3_ : decide ((j : Int) < (l7.length : Int)) = true := decide_eq_true p2_
      have p4_ : decide (j < l7.length) = true := decide_eq_true hlj
      have HLJ := Aside0.mk hlj
      go_upto_region 19 with ((with_reducible refine gate_dst (N := 107) rfl ?_); refine ld_fld rfl 25 _ rfl (.slice (some ad) l7.length c7) (by rfl) (HT.out.b1) (by rfl) hu25 rfl ?_)
      have HS := Aside0.mk (RbL.std HT.out)
      clear HT
      have HS1 := Aside0.mk (Std.step HS.out (below_drew1 (Below.refl _ _)))
      refine start_ (n := 8) (S := fun w' => (w'.cell? ⟨g1, 7, none⟩ = some (.slice (some ad) l7.length c7)) ∧ (w'.cell? (ad.add (j * 4)) = some (.int .i64 (rd_T28 l7 (j : Int)).f0) ∧ w'.cell? ⟨(ad.add (j * 4)).block, (ad.add (j * 4)).off + 1, none⟩ = some (.int .i64 (rd_T28 l7 (j : Int)).f1) ∧ w'.cell? ⟨(ad.add (j * 4)).block, (ad.add (j * 4)).off + 2, none⟩ = some (.float .f64 (rd_T28 l7 (j : Int)).f2) ∧ w'.cell? ⟨(ad.add (j * 4)).block, (ad.add (j * 4)).off + 3, none⟩ = some (.string (rd_T28 l7 (j : Int)).f3)) ∧ (w'.cell? ⟨g8, 0, none⟩ = some (.int .i64 lo.f0) ∧ w'.cell? ⟨g8, 1, none⟩ = some (.int .i64 lo.f1) ∧ w'.cell? ⟨g8, 2, none⟩ = some (.float .f64 lo.f2) ∧ w'.cell? ⟨g8, 3, none⟩ = some (.string lo.f3))) (ds := []) #[false, false, false, false, false, false, false, false] (by kernel_rfl) rfl rfl ⟨(blk_cell HS1.out.now.b1 7).trans rfl, el_at (Kd.C_below HR0.out HS1.out.now.hb) HLJ.out, cells_4 HS1.out.now.b8⟩ (fun hHeld => ?_)
      clear HS
      have HS := HS1
      clear HS1
      generalize World.drew _ = z1 at HS hHeld ⊢
      refine pureP #[true, false, false, false, false, false, false, false] (by kernel_rfl) (i := 0) (N := some 112) ?_
      refine takeP #[true, true, false, false, false, false, false, false] (by kernel_rfl) hHeld (i := 1) (N := some 113) ?_
      refine pureP #[true, true, true, false, false, false, false, false] (by kernel_rfl) (i := 2) (N := some 114) ?_
      refine pureP #[true, true, true, true, false, false, false, false] (by kernel_rfl) (i := 3) (N := some 115) ?_
      refine takeP #[true, true, true, true, true, false, false, false] (by kernel_rfl) hHeld (i := 4) (N := some 116) ?_
      refine takeP #[true, true, true, true, true, true, false, false] (by kernel_rfl) hHeld (i := 5) (N := some 117) ?_
      refine one_ (i := 6) (N := some 118) #[true, true, true, true, true, true, true, false] rfl rfl (by kernel_rfl) (by decide) (fun K hK => ?_)
      refine goes_ Try.func54 (by kernel_rfl) rfl #[.agg #[.int .i64 (rd_T28 l7 (j : Int)).f0, .int .i64 (rd_T28 l7 (j : Int)).f1, .float .f64 (rd_T28 l7 (j : Int)).f2, .string (rd_T28 l7 (j : Int)).f3], .agg #[.int .i64 lo.f0, .int .i64 lo.f1, .float .f64 lo.f2, .string lo.f3]] (by rfl) rfl rfl (by (try simp only [List.map_toArray, List.map_cons, List.map_nil]); first | done | rfl) ?_
      refine (colonnaderef18_Compare.calls k (rd_T28 l7 (j : Int)).f0 (rd_T28 l7 (j : Int)).f1 (rd_T28 l7 (j : Int)).f2 (rd_T28 l7 (j : Int)).f3 lo.f0 lo.f1 lo.f2 lo.f3 x _ F1.out).mono ?_
      rintro e_ w_ ⟨rfl, hb_⟩
      refine ⟨_, rfl, ?_⟩
      have HS1 := Aside0.mk (Std.step HS.out hb_)
      clear HS hb_
      have HS := HS1
      clear HS1
      refine hK.out _ _ ⟨(blk_cell HS.out.now.b1 7).trans rfl, el_at (Kd.C_below HR0.out HS.out.now.hb) HLJ.out, cells_4 HS.out.now.b8⟩ (fun hHeld => ?_)
      clear hK K
      refine norm_ (a' := ?_) ?_ ?_
      rotate_left
      ·show Act.put _ (some 118) _ = _
       simp only [Act.put, List.setIfInBounds_toArray, List.set_cons_zero, List.set_cons_succ, i64_w, i32_w]
       rfl
      refine pureP #[true, true, true, true, true, true, true, true] (by kernel_rfl) (i := 7) (N := some 119) ?_
      refine done_ (by kernel_rfl) ?_
      clear hHeld
      have HT := Aside0.mk HS.out.now
      clear HS
      have hT := HTT.out
      clear HTT
      by_cases hx : x < 0
      have x1_ : decide (x < 0) = true := decide_eq_true hx
      rw [if_pos hx] at hT
      obtain ⟨x0, x1, x2, x3⟩ := el_at (Kd.C_below HR0.out HT.out.hb) HLJ.out
      go_upto_region 21 with (first | ((with_reducible refine gate_dst (N := 121) rfl ?_); refine ld_fld rfl 25 _ rfl (.slice (some ad) l7.length c7) (by rfl) (HT.out.b1) (by rfl) hu25 rfl ?_) | ((with_reducible refine gate_store (p := 8) rfl ?_); refine st_blk rfl 28 _ _ rfl rfl #[.int .i64 (rd_T28 l7 (j : Int)).f0, .int .i64 (rd_T28 l7 (j : Int)).f1, .float .f64 (rd_T28 l7 (j : Int)).f2, .string (rd_T28 l7 (j : Int)).f3] (by rfl) (by rfl) HT.out.b8 (by rfl) (by kernel_rfl) (by simp [Value.oneCell']) ?_; intro y7 hx_ ho_; have HT1 := Aside0.mk (RbL.set8 (c := (rd_T28 l7 (j : Int))) HT.out hx_ ho_); clear HT hx_ ho_ x0 x1 x2 x3; have HT := HT1; clear HT1))
      obtain ⟨lo2, hlo2⟩ : ∃ q : S28, q = (rd_T28 l7 (j : Int)) := ⟨_, rfl⟩
      rw [← hlo2] at HT
      have hT2 : rbT k lo2 (if y > 0 then (rd_T28 l7 (j : Int)) else hi) (l7.drop (j + 1)) = some (plo, phi) := by rw [hlo2]; exact hT
      clear hT hlo2
      have hT := hT2
      clear hT2
      rotate_left
      have x1_ : decide (x < 0) = false := decide_eq_false hx
      rw [if_neg hx] at hT
      have x9_ : 0 ≤ x := by omega
      go_upto_region 21 with (fail)
      obtain ⟨lo2, hlo2⟩ : ∃ q : S28, q = lo := ⟨_, rfl⟩
      rw [← hlo2] at HT hT
      clear hlo2
      rotate_left
      all_goals
       have HS := Aside0.mk (RbL.std HT.out)
       clear HT
       have HS1 := Aside0.mk (Std.step HS.out (below_drew1 (Below.refl _ _)))
       refine start_ (n := 8) (S := fun w' => (w'.cell? ⟨g1, 7, none⟩ = some (.slice (some ad) l7.length c7)) ∧ (w'.cell? (ad.add (j * 4)) = some (.int .i64 (rd_T28 l7 (j : Int)).f0) ∧ w'.cell? ⟨(ad.add (j * 4)).block, (ad.add (j * 4)).off + 1, none⟩ = some (.int .i64 (rd_T28 l7 (j : Int)).f1) ∧ w'.cell? ⟨(ad.add (j * 4)).block, (ad.add (j * 4)).off + 2, none⟩ = some (.float .f64 (rd_T28 l7 (j : Int)).f2) ∧ w'.cell? ⟨(ad.add (j * 4)).block, (ad.add (j * 4)).off + 3, none⟩ = some (.string (rd_T28 l7 (j : Int)).f3)) ∧ (w'.cell? ⟨g9, 0, none⟩ = some (.int .i64 hi.f0) ∧ w'.cell? ⟨g9, 1, none⟩ = some (.int .i64 hi.f1) ∧ w'.cell? ⟨g9, 2, none⟩ = some (.float .f64 hi.f2) ∧ w'.cell? ⟨g9, 3, none⟩ = some (.string hi.f3))) (ds := []) #[false, false, false, false, false, false, false, false] (by kernel_rfl) rfl rfl ⟨(blk_cell HS1.out.now.b1 7).trans rfl, el_at (Kd.C_below HR0.out HS1.out.now.hb) HLJ.out, cells_4 HS1.out.now.b9⟩ (fun hHeld => ?_)
       clear HS
       have HS := HS1
       clear HS1
       generalize World.drew _ = z2 at HS hHeld ⊢
       refine pureP #[true, false, false, false, false, false, false, false] (by kernel_rfl) (i := 0) (N := some 125) ?_
       refine takeP #[true, true, false, false, false, false, false, false] (by kernel_rfl) hHeld (i := 1) (N := some 126) ?_
       refine pureP #[true, true, true, false, false, false, false, false] (by kernel_rfl) (i := 2) (N := some 127) ?_
       refine pureP #[true, true, true, true, false, false, false, false] (by kernel_rfl) (i := 3) (N := some 128) ?_
       refine takeP #[true, true, true, true, true, false, false, false] (by kernel_rfl) hHeld (i := 4) (N := some 129) ?_
       refine takeP #[true, true, true, true, true, true, false, false] (by kernel_rfl) hHeld (i := 5) (N := some 130) ?_
       refine one_ (i := 6) (N := some 131) #[true, true, true, true, true, true, true, false] rfl rfl (by kernel_rfl) (by decide) (fun K hK => ?_)
       refine goes_ Try.func54 (by kernel_rfl) rfl #[.agg #[.int .i64 (rd_T28 l7 (j : Int)).f0, .int .i64 (rd_T28 l7 (j : Int)).f1, .float .f64 (rd_T28 l7 (j : Int)).f2, .string (rd_T28 l7 (j : Int)).f3], .agg #[.int .i64 hi.f0, .int .i64 hi.f1, .float .f64 hi.f2, .string hi.f3]] (by rfl) rfl rfl (by (try simp only [List.map_toArray, List.map_cons, List.map_nil]); first | done | rfl) ?_
       refine (colonnaderef18_Compare.calls k (rd_T28 l7 (j : Int)).f0 (rd_T28 l7 (j : Int)).f1 (rd_T28 l7 (j : Int)).f2 (rd_T28 l7 (j : Int)).f3 hi.f0 hi.f1 hi.f2 hi.f3 y _ F2.out).mono ?_
       rintro e_ w_ ⟨rfl, hb_⟩
       refine ⟨_, rfl, ?_⟩
       have HS1 := Aside0.mk (Std.step HS.out hb_)
       clear HS hb_
       have HS := HS1
       clear HS1
       refine hK.out _ _ ⟨(blk_cell HS.out.now.b1 7).trans rfl, el_at (Kd.C_below HR0.out HS.out.now.hb) HLJ.out, cells_4 HS.out.now.b9⟩ (fun hHeld => ?_)
       clear hK K
       refine norm_ (a' := ?_) ?_ ?_
       rotate_left
       ·show Act.put _ (some 131) _ = _
        simp only [Act.put, List.setIfInBounds_toArray, List.set_cons_zero, List.set_cons_succ, i64_w, i32_w]
        rfl
       refine pureP #[true, true, true, true, true, true, true, true] (by kernel_rfl) (i := 7) (N := some 132) ?_
       refine done_ (by kernel_rfl) ?_
       clear hHeld
       have HT := Aside0.mk HS.out.now
       clear HS
       by_cases hy : y > 0
       ·have y1 : decide (y > 0) = true := decide_eq_true hy
        have y2 : decide (0 < y) = true := decide_eq_true hy
        rw [if_pos hy] at hT
        have HTT := Aside0.mk hT
        have y3 : 0 < y := hy
        clear hy hT
        obtain ⟨x0, x1, x2, x3⟩ := el_at (Kd.C_below HR0.out HT.out.hb) HLJ.out
        go_wp2_with (first | ((with_reducible refine gate_dst (N := 134) rfl ?_); refine ld_fld rfl 25 _ rfl (.slice (some ad) l7.length c7) (by rfl) (HT.out.b1) (by rfl) hu25 rfl ?_) | ((with_reducible refine gate_store (p := 9) rfl ?_); refine st_blk rfl 28 _ _ rfl rfl #[.int .i64 (rd_T28 l7 (j : Int)).f0, .int .i64 (rd_T28 l7 (j : Int)).f1, .float .f64 (rd_T28 l7 (j : Int)).f2, .string (rd_T28 l7 (j : Int)).f3] (by rfl) (by rfl) HT.out.b9 (by rfl) (by kernel_rfl) (by simp [Value.oneCell']) ?_; intro y8 hx_ ho_; have HT1 := Aside0.mk (RbL.set9 (c := (rd_T28 l7 (j : Int))) HT.out hx_ ho_); clear HT hx_ ho_ x0 x1 x2 x3; have HT := HT1; clear HT1))
        go_roundw
        case rel => exact ⟨j + 1, lo2, (rd_T28 l7 (j : Int)), by omega, by go_num, HTT, HT⟩
        case measure => simp [intOf]; omega
       ·have y1 : decide (y > 0) = false := decide_eq_false hy
        have y2 : decide (0 < y) = false := decide_eq_false hy
        rw [if_neg hy] at hT
        have HTT := Aside0.mk hT
        have y3 : y ≤ 0 := by omega
        clear hy hT
        go_wp2_with (fail)
        go_roundw
        case rel => exact ⟨j + 1, lo2, hi, by omega, by go_num, HTT, HT⟩
        case measure => simp [intOf]; omega
     ·have hT := HTT.out
      clear HTT
      rw [List.drop_eq_nil_of_le (by omega), rbT] at hT
      obtain ⟨rfl, rfl⟩ := Prod.mk.inj (Option.some.inj hT)
      clear hT
      have p3_ : decide ((j : Int) < (l7.length : Int)) = false := decide_eq_false (by omega)
      have p4_ : decide (j < l7.length) = false := decide_eq_false hlj
      obtain ⟨q18, q28, q38, q98, q19, q29, q39, q89⟩ := HT.out.ne
      have q23 := HNE.out.2.1
      have q32 := q23.symm
      have q82 := q28.symm
      have q83 := q38.symm
      have q92 := q29.symm
      have q93 := q39.symm
      have ge_ := HNE.out.1
      go_upto_region 23 with ((with_reducible refine gate_dst (N := 107) rfl ?_); refine ld_fld rfl 25 _ rfl (.slice (some ad) l7.length c7) (by rfl) (HT.out.b1) (by rfl) hu25 rfl ?_)
      rename_i kk_ hkk_
      have A2 := Aside0.mk (HT.out.b2)
      have A3 := Aside0.mk (HT.out.b3)
      have Ag8 := Aside0.mk (HT.out.b8)
      have Ag9 := Aside0.mk (HT.out.b9)
      have AW := Aside0.mk (HT.out.hb)
      have HS := Aside0.mk (Std.and (Std.blk Ag8.out) (Std.and (Std.blk Ag9.out) (Std.and (Std.blk A2.out) (Std.and (Std.blk A3.out) (Std.bel AW.out)))))
      have HS1 := Aside0.mk (Std.step HS.out (below_drew1 (Below.refl _ _)))
      refine start_ (n := 5) (S := fun w' => (w'.cell? ⟨g8, 0, none⟩ = some (.int .i64 lo.f0) ∧ w'.cell? ⟨g8, 1, none⟩ = some (.int .i64 lo.f1) ∧ w'.cell? ⟨g8, 2, none⟩ = some (.float .f64 lo.f2) ∧ w'.cell? ⟨g8, 3, none⟩ = some (.string lo.f3)) ∧ (w'.cell? ⟨g9, 0, none⟩ = some (.int .i64 hi.f0) ∧ w'.cell? ⟨g9, 1, none⟩ = some (.int .i64 hi.f1) ∧ w'.cell? ⟨g9, 2, none⟩ = some (.float .f64 hi.f2) ∧ w'.cell? ⟨g9, 3, none⟩ = some (.string hi.f3))) (ds := []) #[false, false, false, false, false] (by kernel_rfl) rfl rfl ⟨cells_4 (HS1.out.now.1), cells_4 (HS1.out.now.2.1)⟩ (fun hHeld => ?_)
      clear HS
      have HS := HS1
      clear HS1
      generalize World.drew _ = zr at HS hHeld ⊢
      refine takeP #[true, false, false, false, false] (by kernel_rfl) hHeld (i := 0) (N := some 138) ?_
      refine takeP #[true, true, false, false, false] (by kernel_rfl) hHeld (i := 1) (N := some 139) ?_
      refine one_ (i := 2) (N := none) #[true, true, true, false, false] rfl rfl (by kernel_rfl) (by decide) (fun K hK => ?_)
      refine st_blk_step (by rfl) 28 _ _ rfl rfl (g := g2) #[.int .i64 lo.f0, .int .i64 lo.f1, .float .f64 lo.f2, .string lo.f3] (by rfl) (by rfl) HS.out.now.2.2.1 (by rfl) (by kernel_rfl) (by simp [Value.oneCell']) ?_
      intro r2w hx_ ho_
      have B2 := Aside0.mk hx_
      have B3 := Aside0.mk (ho_.blk HS.out.now.2.2.2.1 q32)
      have Bg8 := Aside0.mk (ho_.blk HS.out.now.1 q82)
      have Bg9 := Aside0.mk (ho_.blk HS.out.now.2.1 q92)
      have BW := Aside0.mk (ho_.below HS.out.now.2.2.2.2 ge_.1)
      clear HS hx_ ho_
      refine hK.out _ _ ⟨cells_4 (Bg8.out), cells_4 (Bg9.out)⟩ (fun hHeld => ?_)
      clear hK K
      refine norm_ (a' := ?_) ?_ ?_
      rotate_left
      ·show Act.put _ (none) _ = _
       simp only [Act.put, List.setIfInBounds_toArray, List.set_cons_zero, List.set_cons_succ, i64_w, i32_w]
       rfl
      refine one_ (i := 3) (N := none) #[true, true, true, true, false] rfl rfl (by kernel_rfl) (by decide) (fun K hK => ?_)
      refine st_blk_step (by rfl) 28 _ _ rfl rfl (g := g3) #[.int .i64 hi.f0, .int .i64 hi.f1, .float .f64 hi.f2, .string hi.f3] (by rfl) (by rfl) B3.out (by rfl) (by kernel_rfl) (by simp [Value.oneCell']) ?_
      intro r3w hx_ ho_
      have C2 := Aside0.mk (ho_.blk B2.out q23)
      have C3 := Aside0.mk hx_
      have Cg8 := Aside0.mk (ho_.blk Bg8.out q83)
      have Cg9 := Aside0.mk (ho_.blk Bg9.out q93)
      have CW := Aside0.mk (ho_.below BW.out ge_.2)
      clear B2 B3 BW hx_ ho_
      refine hK.out _ _ ⟨cells_4 (Cg8.out), cells_4 (Cg9.out)⟩ (fun hHeld => ?_)
      clear hK K
      refine norm_ (a' := ?_) ?_ ?_
      rotate_left
      ·show Act.put _ (none) _ = _
       simp only [Act.put, List.setIfInBounds_toArray, List.set_cons_zero, List.set_cons_succ, i64_w, i32_w]
       rfl
      refine pureP #[true, true, true, true, true] (by kernel_rfl) (i := 4) (N := some 4) ?_
      refine done_ (by kernel_rfl) ?_
      clear hHeld
      refine then_normal ?_
      refine hkk_ _ _ (wp_ret ?_)
      (repeat refine then_ret ?_)
      refine bodyPost_ret (results_list (rs := [.cell 2 28, .cell 3 28, .tmp 4]) rfl (by simp) (.cell g2 28 #[_, _, _, _] (0, 0) _ rfl C2.out Try.underlying28 rfl (by kernel_rfl) (.cell g3 28 #[_, _, _, _] (0, 0) _ rfl C3.out Try.underlying28 rfl (by kernel_rfl) (.tmp .nil)))) rfl ?_
      exact ⟨rfl, CW.out⟩
 rw [if_neg hA2] at h
 by_cases hA5 : a0 = 5
 ·subst hA5
  rw [if_pos rfl] at h
  by_cases hB : a2 = 0
  rotate_left
  ·rw [if_neg hB] at h; cases h
  subst hB
  rw [if_pos rfl] at h
  obtain ⟨rfl, rfl, rfl, rfl, rfl, rfl, rfl, rfl, rfl⟩ := t9_inj h
  clear h
  rcases hzz with rfl | ⟨hz1, rfl⟩
  rotate_left
  have z1 : (e1 != 0) = true := bne_iff_ne.mpr hz1
  have z3 : (e1 == 0) = false := beq_eq_false_iff_ne.mpr hz1
  clear hz1
  rotate_left
  all_goals
   obtain ⟨p0, p1, p2, p3, p4, p5, p6, p7, p8⟩ := pcells HF.out.2.2.2.2.2.1
   obtain ⟨_, q23, q52, q53, q12, q13⟩ := HNE.out
   have q32 := q23.symm
   have ge_ := HNE.out.1
   go_wp2_with (fail)
   clear p0 p1 p2 p3 p4 p5 p6 p7 p8
   rename_i kk_ hkk_
   have A2 := Aside0.mk (HF.out.2.2.2.2.1)
   have A3 := Aside0.mk (HF.out.2.2.2.1)
   have Ag1 := Aside0.mk (HF.out.2.2.2.2.2.1)
   have Ag5 := Aside0.mk (HF.out.2.2.1)
   have AW := Aside0.mk (HF.out.2.2.2.2.2.2.2.2)
   have HS := Aside0.mk (Std.and (Std.blk Ag1.out) (Std.and (Std.blk Ag5.out) (Std.and (Std.blk A2.out) (Std.and (Std.blk A3.out) (Std.bel AW.out)))))
   have HS1 := Aside0.mk (Std.step HS.out (below_drew1 (Below.refl _ _)))
   refine start_ (n := 6) (S := fun w' => (w'.cell? ⟨g1, 0, none⟩ = some (.int .i64 5) ∧ w'.cell? ⟨g1, 1, none⟩ = some (.string a1) ∧ w'.cell? ⟨g1, 2, none⟩ = some (.int .i64 0) ∧ w'.cell? ⟨g1, 3, none⟩ = some (.int .i64 a3) ∧ w'.cell? ⟨g1, 4, none⟩ = some (.int .i64 a4) ∧ w'.cell? ⟨g1, 5, none⟩ = some (.float .f64 a5) ∧ w'.cell? ⟨g1, 6, none⟩ = some (.string a6) ∧ w'.cell? ⟨g1, 7, none⟩ = some (.slice A7 l7.length c7) ∧ w'.cell? ⟨g1, 8, none⟩ = some (.slice A8 l8.length c8)) ∧ (w'.cell? ⟨g5, 0, none⟩ = some (.int .i64 0) ∧ w'.cell? ⟨g5, 1, none⟩ = some (.int .i64 0) ∧ w'.cell? ⟨g5, 2, none⟩ = some (.float .f64 0) ∧ w'.cell? ⟨g5, 3, none⟩ = some (.string ⟨#[]⟩))) (ds := []) #[false, false, false, false, false, false] (by kernel_rfl) rfl rfl ⟨pcells (HS1.out.now.1), cells_4 (HS1.out.now.2.1)⟩ (fun hHeld => ?_)
   clear HS
   have HS := HS1
   clear HS1
   generalize World.drew _ = zr at HS hHeld ⊢
   refine pureP #[true, false, false, false, false, false] (by kernel_rfl) (i := 0) (N := some 65) ?_
   refine takeP #[true, true, false, false, false, false] (by kernel_rfl) hHeld (i := 1) (N := some 66) ?_
   refine takeP #[true, true, true, false, false, false] (by kernel_rfl) hHeld (i := 2) (N := some 67) ?_
   refine one_ (i := 3) (N := none) #[true, true, true, true, false, false] rfl rfl (by kernel_rfl) (by decide) (fun K hK => ?_)
   refine st_blk_step (by rfl) 28 _ _ rfl rfl (g := g2) #[.int .i64 a3, .int .i64 a4, .float .f64 a5, .string a6] (by rfl) (by rfl) HS.out.now.2.2.1 (by rfl) (by kernel_rfl) (by simp [Value.oneCell']) ?_
   intro r2w hx_ ho_
   have B2 := Aside0.mk hx_
   have B3 := Aside0.mk (ho_.blk HS.out.now.2.2.2.1 q32)
   have Bg1 := Aside0.mk (ho_.blk HS.out.now.1 q12)
   have Bg5 := Aside0.mk (ho_.blk HS.out.now.2.1 q52)
   have BW := Aside0.mk (ho_.below HS.out.now.2.2.2.2 ge_.1)
   clear HS hx_ ho_
   refine hK.out _ _ ⟨pcells (Bg1.out), cells_4 (Bg5.out)⟩ (fun hHeld => ?_)
   clear hK K
   refine norm_ (a' := ?_) ?_ ?_
   rotate_left
   ·show Act.put _ (none) _ = _
    simp only [Act.put, List.setIfInBounds_toArray, List.set_cons_zero, List.set_cons_succ, i64_w, i32_w]
    rfl
   refine one_ (i := 4) (N := none) #[true, true, true, true, true, false] rfl rfl (by kernel_rfl) (by decide) (fun K hK => ?_)
   refine st_blk_step (by rfl) 28 _ _ rfl rfl (g := g3) #[.int .i64 0, .int .i64 0, .float .f64 0, .string ⟨#[]⟩] (by rfl) (by rfl) B3.out (by rfl) (by kernel_rfl) (by simp [Value.oneCell']) ?_
   intro r3w hx_ ho_
   have C2 := Aside0.mk (ho_.blk B2.out q23)
   have C3 := Aside0.mk hx_
   have Cg1 := Aside0.mk (ho_.blk Bg1.out q13)
   have Cg5 := Aside0.mk (ho_.blk Bg5.out q53)
   have CW := Aside0.mk (ho_.below BW.out ge_.2)
   clear B2 B3 BW hx_ ho_
   refine hK.out _ _ ⟨pcells (Cg1.out), cells_4 (Cg5.out)⟩ (fun hHeld => ?_)
   clear hK K
   refine norm_ (a' := ?_) ?_ ?_
   rotate_left
   ·show Act.put _ (none) _ = _
    simp only [Act.put, List.setIfInBounds_toArray, List.set_cons_zero, List.set_cons_succ, i64_w, i32_w]
    rfl
   refine pureP #[true, true, true, true, true, true] (by kernel_rfl) (i := 5) (N := some 4) ?_
   refine done_ (by kernel_rfl) ?_
   clear hHeld
   refine then_normal ?_
   refine hkk_ _ _ (wp_ret ?_)
   (repeat refine then_ret ?_)
   refine bodyPost_ret (results_list (rs := [.cell 2 28, .cell 3 28, .tmp 4]) rfl (by simp) (.cell g2 28 #[_, _, _, _] (0, 0) _ rfl C2.out Try.underlying28 rfl (by kernel_rfl) (.cell g3 28 #[_, _, _, _] (0, 0) _ rfl C3.out Try.underlying28 rfl (by kernel_rfl) (.tmp .nil)))) rfl ?_
   exact ⟨rfl, CW.out⟩
 rw [if_neg hA5] at h
 by_cases hA3 : a0 = 3
 ·subst hA3
  rw [if_pos rfl] at h
  by_cases hB : a2 = 0
  rotate_left
  ·rw [if_neg hB] at h; cases h
  subst hB
  rw [if_pos rfl] at h
  by_cases hp1 : 1 < l7.length
  rotate_left
  ·rw [if_neg hp1] at h; cases h
  rw [if_pos hp1] at h
  obtain ⟨rfl, rfl, rfl, rfl, rfl, rfl, rfl, rfl, rfl⟩ := t9_inj h
  clear h
  rcases hzz with rfl | ⟨hz1, rfl⟩
  rotate_left
  have z1 : (e1 != 0) = true := bne_iff_ne.mpr hz1
  have z3 : (e1 == 0) = false := beq_eq_false_iff_ne.mpr hz1
  clear hz1
  rotate_left
  all_goals
   have hp0 : 0 < l7.length := by omega
   have t0 : decide (0 < l7.length) = true := decide_eq_true hp0
   have t1 : decide (1 < l7.length) = true := decide_eq_true hp1
   have t2 : decide ((0 : Int) < (l7.length : Int)) = true := decide_eq_true (by omega)
   have t3 : decide ((1 : Int) < (l7.length : Int)) = true := decide_eq_true (by omega)
   have t4 : (0 : Int) < (l7.length : Int) := by omega
   have t5 : (1 : Int) < (l7.length : Int) := by omega
   obtain ⟨ad, rfl, _, _, _, _⟩ := at_T28 HF.out.2.2.2.2.2.2.1.2 0 (by omega) (by omega)
   have HP0 := Aside0.mk hp0
   have HP1 := Aside0.mk hp1
   obtain ⟨p0, p1, p2, p3, p4, p5, p6, p7, p8⟩ := pcells HF.out.2.2.2.2.2.1
   obtain ⟨_, q23, q52, q53, q12, q13⟩ := HNE.out
   have q32 := q23.symm
   have ge_ := HNE.out.1
   go_wp2_with (fail)
   clear p0 p1 p2 p3 p4 p5 p6 p7 p8
   rename_i kk_ hkk_
   have A2 := Aside0.mk (HF.out.2.2.2.2.1)
   have A3 := Aside0.mk (HF.out.2.2.2.1)
   have Ag1 := Aside0.mk (HF.out.2.2.2.2.2.1)
   have AW := Aside0.mk (HF.out.2.2.2.2.2.2.2.2)
   have HS := Aside0.mk (Std.and (Std.blk Ag1.out) (Std.and (Std.blk A2.out) (Std.and (Std.blk A3.out) (Std.bel AW.out))))
   have HS1 := Aside0.mk (Std.step HS.out (below_drew1 (Below.refl _ _)))
   refine start_ (n := 11) (S := fun w' => (w'.cell? ⟨g1, 7, none⟩ = some (.slice (some ad) l7.length c7)) ∧ (w'.cell? ad = some (.int .i64 (rd_T28 l7 0).f0) ∧ w'.cell? ⟨ad.block, ad.off + 1, none⟩ = some (.int .i64 (rd_T28 l7 0).f1) ∧ w'.cell? ⟨ad.block, ad.off + 2, none⟩ = some (.float .f64 (rd_T28 l7 0).f2) ∧ w'.cell? ⟨ad.block, ad.off + 3, none⟩ = some (.string (rd_T28 l7 0).f3)) ∧ (w'.cell? (⟨ad.block, ad.off + 4, none⟩ : Addr) = some (.int .i64 (rd_T28 l7 1).f0) ∧ w'.cell? ⟨(⟨ad.block, ad.off + 4, none⟩ : Addr).block, (⟨ad.block, ad.off + 4, none⟩ : Addr).off + 1, none⟩ = some (.int .i64 (rd_T28 l7 1).f1) ∧ w'.cell? ⟨(⟨ad.block, ad.off + 4, none⟩ : Addr).block, (⟨ad.block, ad.off + 4, none⟩ : Addr).off + 2, none⟩ = some (.float .f64 (rd_T28 l7 1).f2) ∧ w'.cell? ⟨(⟨ad.block, ad.off + 4, none⟩ : Addr).block, (⟨ad.block, ad.off + 4, none⟩ : Addr).off + 3, none⟩ = some (.string (rd_T28 l7 1).f3))) (ds := []) #[false, false, false, false, false, false, false, false, false, false, false] (by kernel_rfl) rfl rfl ⟨(blk_cell (HS1.out.now.1) 7).trans rfl, el_0 (Kd.C_below HR0.out HS1.out.now.2.2.2) HP0.out, el_1 (Kd.C_below HR0.out HS1.out.now.2.2.2) HP1.out⟩ (fun hHeld => ?_)
   clear HS
   have HS := HS1
   clear HS1
   generalize World.drew _ = zr at HS hHeld ⊢
   refine pureP #[true, false, false, false, false, false, false, false, false, false, false] (by kernel_rfl) (i := 0) (N := some 89) ?_
   refine takeP #[true, true, false, false, false, false, false, false, false, false, false] (by kernel_rfl) hHeld (i := 1) (N := some 90) ?_
   refine pureP #[true, true, true, false, false, false, false, false, false, false, false] (by kernel_rfl) (i := 2) (N := some 91) ?_
   refine takeP #[true, true, true, true, false, false, false, false, false, false, false] (by kernel_rfl) hHeld (i := 3) (N := some 92) ?_
   refine pureP #[true, true, true, true, true, false, false, false, false, false, false] (by kernel_rfl) (i := 4) (N := some 93) ?_
   refine takeP #[true, true, true, true, true, true, false, false, false, false, false] (by kernel_rfl) hHeld (i := 5) (N := some 94) ?_
   refine pureP #[true, true, true, true, true, true, true, false, false, false, false] (by kernel_rfl) (i := 6) (N := some 95) ?_
   refine takeP #[true, true, true, true, true, true, true, true, false, false, false] (by kernel_rfl) hHeld (i := 7) (N := some 96) ?_
   refine one_ (i := 8) (N := none) #[true, true, true, true, true, true, true, true, true, false, false] rfl rfl (by kernel_rfl) (by decide) (fun K hK => ?_)
   refine st_blk_step (by rfl) 28 _ _ rfl rfl (g := g2) #[.int .i64 (rd_T28 l7 0).f0, .int .i64 (rd_T28 l7 0).f1, .float .f64 (rd_T28 l7 0).f2, .string (rd_T28 l7 0).f3] (by rfl) (by rfl) HS.out.now.2.1 (by rfl) (by kernel_rfl) (by simp [Value.oneCell']) ?_
   intro r2w hx_ ho_
   have B2 := Aside0.mk hx_
   have B3 := Aside0.mk (ho_.blk HS.out.now.2.2.1 q32)
   have Bg1 := Aside0.mk (ho_.blk HS.out.now.1 q12)
   have BW := Aside0.mk (ho_.below HS.out.now.2.2.2 ge_.1)
   clear HS hx_ ho_
   refine hK.out _ _ ⟨(blk_cell (Bg1.out) 7).trans rfl, el_0 (Kd.C_below HR0.out BW.out) HP0.out, el_1 (Kd.C_below HR0.out BW.out) HP1.out⟩ (fun hHeld => ?_)
   clear hK K
   refine norm_ (a' := ?_) ?_ ?_
   rotate_left
   ·show Act.put _ (none) _ = _
    simp only [Act.put, List.setIfInBounds_toArray, List.set_cons_zero, List.set_cons_succ, i64_w, i32_w]
    rfl
   refine one_ (i := 9) (N := none) #[true, true, true, true, true, true, true, true, true, true, false] rfl rfl (by kernel_rfl) (by decide) (fun K hK => ?_)
   refine st_blk_step (by rfl) 28 _ _ rfl rfl (g := g3) #[.int .i64 (rd_T28 l7 1).f0, .int .i64 (rd_T28 l7 1).f1, .float .f64 (rd_T28 l7 1).f2, .string (rd_T28 l7 1).f3] (by rfl) (by rfl) B3.out (by rfl) (by kernel_rfl) (by simp [Value.oneCell']) ?_
   intro r3w hx_ ho_
   have C2 := Aside0.mk (ho_.blk B2.out q23)
   have C3 := Aside0.mk hx_
   have Cg1 := Aside0.mk (ho_.blk Bg1.out q13)
   have CW := Aside0.mk (ho_.below BW.out ge_.2)
   clear B2 B3 BW hx_ ho_
   refine hK.out _ _ ⟨(blk_cell (Cg1.out) 7).trans rfl, el_0 (Kd.C_below HR0.out CW.out) HP0.out, el_1 (Kd.C_below HR0.out CW.out) HP1.out⟩ (fun hHeld => ?_)
   clear hK K
   refine norm_ (a' := ?_) ?_ ?_
   rotate_left
   ·show Act.put _ (none) _ = _
    simp only [Act.put, List.setIfInBounds_toArray, List.set_cons_zero, List.set_cons_succ, i64_w, i32_w]
    rfl
   refine pureP #[true, true, true, true, true, true, true, true, true, true, true] (by kernel_rfl) (i := 10) (N := some 4) ?_
   refine done_ (by kernel_rfl) ?_
   clear hHeld
   refine then_normal ?_
   refine hkk_ _ _ (wp_ret ?_)
   (repeat refine then_ret ?_)
   refine bodyPost_ret (results_list (rs := [.cell 2 28, .cell 3 28, .tmp 4]) rfl (by simp) (.cell g2 28 #[_, _, _, _] (0, 0) _ rfl C2.out Try.underlying28 rfl (by kernel_rfl) (.cell g3 28 #[_, _, _, _] (0, 0) _ rfl C3.out Try.underlying28 rfl (by kernel_rfl) (.tmp .nil)))) rfl ?_
   exact ⟨rfl, CW.out⟩
 rw [if_neg hA3] at h
 by_cases hA1 : a0 = 1
 rotate_left
 ·rw [if_neg hA1] at h; cases h
 subst hA1
 rw [if_pos rfl] at h
 by_cases hB1 : a2 = 1
 ·subst hB1
  simp only [reduceIte, Int.reduceEq, or_true, true_or, or_self, or_false, false_or] at h
  obtain ⟨rfl, rfl, rfl, rfl, rfl, rfl, rfl, rfl, rfl⟩ := t9_inj h
  clear h
  rcases hzz with rfl | ⟨hz1, rfl⟩
  rotate_left
  have z1 : (e1 != 0) = true := bne_iff_ne.mpr hz1
  have z3 : (e1 == 0) = false := beq_eq_false_iff_ne.mpr hz1
  clear hz1
  rotate_left
  all_goals
   obtain ⟨p0, p1, p2, p3, p4, p5, p6, p7, p8⟩ := pcells HF.out.2.2.2.2.2.1
   obtain ⟨_, q23, q52, q53, q12, q13⟩ := HNE.out
   have q32 := q23.symm
   have ge_ := HNE.out.1
   go_wp2_with (fail)
   clear p0 p1 p2 p3 p4 p5 p6 p7 p8
   rename_i kk_ hkk_
   have A2 := Aside0.mk (HF.out.2.2.2.2.1)
   have A3 := Aside0.mk (HF.out.2.2.2.1)
   have Ag1 := Aside0.mk (HF.out.2.2.2.2.2.1)
   have AW := Aside0.mk (HF.out.2.2.2.2.2.2.2.2)
   have HS := Aside0.mk (Std.and (Std.blk Ag1.out) (Std.and (Std.blk A2.out) (Std.and (Std.blk A3.out) (Std.bel AW.out))))
   have HS1 := Aside0.mk (Std.step HS.out (below_drew1 (Below.refl _ _)))
   refine start_ (n := 7) (S := fun w' => (w'.cell? ⟨g1, 0, none⟩ = some (.int .i64 1) ∧ w'.cell? ⟨g1, 1, none⟩ = some (.string a1) ∧ w'.cell? ⟨g1, 2, none⟩ = some (.int .i64 1) ∧ w'.cell? ⟨g1, 3, none⟩ = some (.int .i64 a3) ∧ w'.cell? ⟨g1, 4, none⟩ = some (.int .i64 a4) ∧ w'.cell? ⟨g1, 5, none⟩ = some (.float .f64 a5) ∧ w'.cell? ⟨g1, 6, none⟩ = some (.string a6) ∧ w'.cell? ⟨g1, 7, none⟩ = some (.slice A7 l7.length c7) ∧ w'.cell? ⟨g1, 8, none⟩ = some (.slice A8 l8.length c8))) (ds := []) #[false, false, false, false, false, false, false] (by kernel_rfl) rfl rfl (pcells (HS1.out.now.1)) (fun hHeld => ?_)
   clear HS
   have HS := HS1
   clear HS1
   generalize World.drew _ = zr at HS hHeld ⊢
   refine pureP #[true, false, false, false, false, false, false] (by kernel_rfl) (i := 0) (N := some 82) ?_
   refine takeP #[true, true, false, false, false, false, false] (by kernel_rfl) hHeld (i := 1) (N := some 83) ?_
   refine pureP #[true, true, true, false, false, false, false] (by kernel_rfl) (i := 2) (N := some 84) ?_
   refine takeP #[true, true, true, true, false, false, false] (by kernel_rfl) hHeld (i := 3) (N := some 85) ?_
   refine one_ (i := 4) (N := none) #[true, true, true, true, true, false, false] rfl rfl (by kernel_rfl) (by decide) (fun K hK => ?_)
   refine st_blk_step (by rfl) 28 _ _ rfl rfl (g := g2) #[.int .i64 a3, .int .i64 a4, .float .f64 a5, .string a6] (by rfl) (by rfl) HS.out.now.2.1 (by rfl) (by kernel_rfl) (by simp [Value.oneCell']) ?_
   intro r2w hx_ ho_
   have B2 := Aside0.mk hx_
   have B3 := Aside0.mk (ho_.blk HS.out.now.2.2.1 q32)
   have Bg1 := Aside0.mk (ho_.blk HS.out.now.1 q12)
   have BW := Aside0.mk (ho_.below HS.out.now.2.2.2 ge_.1)
   clear HS hx_ ho_
   refine hK.out _ _ (pcells (Bg1.out)) (fun hHeld => ?_)
   clear hK K
   refine norm_ (a' := ?_) ?_ ?_
   rotate_left
   ·show Act.put _ (none) _ = _
    simp only [Act.put, List.setIfInBounds_toArray, List.set_cons_zero, List.set_cons_succ, i64_w, i32_w]
    rfl
   refine one_ (i := 5) (N := none) #[true, true, true, true, true, true, false] rfl rfl (by kernel_rfl) (by decide) (fun K hK => ?_)
   refine st_blk_step (by rfl) 28 _ _ rfl rfl (g := g3) #[.int .i64 a3, .int .i64 a4, .float .f64 a5, .string a6] (by rfl) (by rfl) B3.out (by rfl) (by kernel_rfl) (by simp [Value.oneCell']) ?_
   intro r3w hx_ ho_
   have C2 := Aside0.mk (ho_.blk B2.out q23)
   have C3 := Aside0.mk hx_
   have Cg1 := Aside0.mk (ho_.blk Bg1.out q13)
   have CW := Aside0.mk (ho_.below BW.out ge_.2)
   clear B2 B3 BW hx_ ho_
   refine hK.out _ _ (pcells (Cg1.out)) (fun hHeld => ?_)
   clear hK K
   refine norm_ (a' := ?_) ?_ ?_
   rotate_left
   ·show Act.put _ (none) _ = _
    simp only [Act.put, List.setIfInBounds_toArray, List.set_cons_zero, List.set_cons_succ, i64_w, i32_w]
    rfl
   refine pureP #[true, true, true, true, true, true, true] (by kernel_rfl) (i := 6) (N := some 4) ?_
   refine done_ (by kernel_rfl) ?_
   clear hHeld
   refine then_normal ?_
   refine hkk_ _ _ (wp_ret ?_)
   (repeat refine then_ret ?_)
   refine bodyPost_ret (results_list (rs := [.cell 2 28, .cell 3 28, .tmp 4]) rfl (by simp) (.cell g2 28 #[_, _, _, _] (0, 0) _ rfl C2.out Try.underlying28 rfl (by kernel_rfl) (.cell g3 28 #[_, _, _, _] (0, 0) _ rfl C3.out Try.underlying28 rfl (by kernel_rfl) (.tmp .nil)))) rfl ?_
   exact ⟨rfl, CW.out⟩
 by_cases hB2 : a2 = 2
 ·subst hB2
  simp only [reduceIte, Int.reduceEq, or_true, true_or, or_self, or_false, false_or] at h
  obtain ⟨rfl, rfl, rfl, rfl, rfl, rfl, rfl, rfl, rfl⟩ := t9_inj h
  clear h
  rcases hzz with rfl | ⟨hz1, rfl⟩
  rotate_left
  have z1 : (e1 != 0) = true := bne_iff_ne.mpr hz1
  have z3 : (e1 == 0) = false := beq_eq_false_iff_ne.mpr hz1
  clear hz1
  rotate_left
  all_goals
   obtain ⟨p0, p1, p2, p3, p4, p5, p6, p7, p8⟩ := pcells HF.out.2.2.2.2.2.1
   obtain ⟨_, q23, q52, q53, q12, q13⟩ := HNE.out
   have q32 := q23.symm
   have ge_ := HNE.out.1
   go_wp2_with (fail)
   clear p0 p1 p2 p3 p4 p5 p6 p7 p8
   rename_i kk_ hkk_
   have A2 := Aside0.mk (HF.out.2.2.2.2.1)
   have A3 := Aside0.mk (HF.out.2.2.2.1)
   have Ag5 := Aside0.mk (HF.out.2.2.1)
   have AW := Aside0.mk (HF.out.2.2.2.2.2.2.2.2)
   have HS := Aside0.mk (Std.and (Std.blk Ag5.out) (Std.and (Std.blk A2.out) (Std.and (Std.blk A3.out) (Std.bel AW.out))))
   have HS1 := Aside0.mk (Std.step HS.out (below_drew1 (Below.refl _ _)))
   refine start_ (n := 5) (S := fun w' => (w'.cell? ⟨g5, 0, none⟩ = some (.int .i64 0) ∧ w'.cell? ⟨g5, 1, none⟩ = some (.int .i64 0) ∧ w'.cell? ⟨g5, 2, none⟩ = some (.float .f64 0) ∧ w'.cell? ⟨g5, 3, none⟩ = some (.string ⟨#[]⟩))) (ds := []) #[false, false, false, false, false] (by kernel_rfl) rfl rfl (cells_4 (HS1.out.now.1)) (fun hHeld => ?_)
   clear HS
   have HS := HS1
   clear HS1
   generalize World.drew _ = zr at HS hHeld ⊢
   refine takeP #[true, false, false, false, false] (by kernel_rfl) hHeld (i := 0) (N := some 50) ?_
   refine takeP #[true, true, false, false, false] (by kernel_rfl) hHeld (i := 1) (N := some 51) ?_
   refine one_ (i := 2) (N := none) #[true, true, true, false, false] rfl rfl (by kernel_rfl) (by decide) (fun K hK => ?_)
   refine st_blk_step (by rfl) 28 _ _ rfl rfl (g := g2) #[.int .i64 0, .int .i64 0, .float .f64 0, .string ⟨#[]⟩] (by rfl) (by rfl) HS.out.now.2.1 (by rfl) (by kernel_rfl) (by simp [Value.oneCell']) ?_
   intro r2w hx_ ho_
   have B2 := Aside0.mk hx_
   have B3 := Aside0.mk (ho_.blk HS.out.now.2.2.1 q32)
   have Bg5 := Aside0.mk (ho_.blk HS.out.now.1 q52)
   have BW := Aside0.mk (ho_.below HS.out.now.2.2.2 ge_.1)
   clear HS hx_ ho_
   refine hK.out _ _ (cells_4 (Bg5.out)) (fun hHeld => ?_)
   clear hK K
   refine norm_ (a' := ?_) ?_ ?_
   rotate_left
   ·show Act.put _ (none) _ = _
    simp only [Act.put, List.setIfInBounds_toArray, List.set_cons_zero, List.set_cons_succ, i64_w, i32_w]
    rfl
   refine one_ (i := 3) (N := none) #[true, true, true, true, false] rfl rfl (by kernel_rfl) (by decide) (fun K hK => ?_)
   refine st_blk_step (by rfl) 28 _ _ rfl rfl (g := g3) #[.int .i64 0, .int .i64 0, .float .f64 0, .string ⟨#[]⟩] (by rfl) (by rfl) B3.out (by rfl) (by kernel_rfl) (by simp [Value.oneCell']) ?_
   intro r3w hx_ ho_
   have C2 := Aside0.mk (ho_.blk B2.out q23)
   have C3 := Aside0.mk hx_
   have Cg5 := Aside0.mk (ho_.blk Bg5.out q53)
   have CW := Aside0.mk (ho_.below BW.out ge_.2)
   clear B2 B3 BW hx_ ho_
   refine hK.out _ _ (cells_4 (Cg5.out)) (fun hHeld => ?_)
   clear hK K
   refine norm_ (a' := ?_) ?_ ?_
   rotate_left
   ·show Act.put _ (none) _ = _
    simp only [Act.put, List.setIfInBounds_toArray, List.set_cons_zero, List.set_cons_succ, i64_w, i32_w]
    rfl
   refine pureP #[true, true, true, true, true] (by kernel_rfl) (i := 4) (N := some 4) ?_
   refine done_ (by kernel_rfl) ?_
   clear hHeld
   refine then_normal ?_
   refine hkk_ _ _ (wp_ret ?_)
   (repeat refine then_ret ?_)
   refine bodyPost_ret (results_list (rs := [.cell 2 28, .cell 3 28, .tmp 4]) rfl (by simp) (.cell g2 28 #[_, _, _, _] (0, 0) _ rfl C2.out Try.underlying28 rfl (by kernel_rfl) (.cell g3 28 #[_, _, _, _] (0, 0) _ rfl C3.out Try.underlying28 rfl (by kernel_rfl) (.tmp .nil)))) rfl ?_
   exact ⟨rfl, CW.out⟩
 by_cases hB3 : a2 = 3
 ·subst hB3
  simp only [reduceIte, Int.reduceEq, or_true, true_or, or_self, or_false, false_or] at h
  obtain ⟨rfl, rfl, rfl, rfl, rfl, rfl, rfl, rfl, rfl⟩ := t9_inj h
  clear h
  rcases hzz with rfl | ⟨hz1, rfl⟩
  rotate_left
  have z1 : (e1 != 0) = true := bne_iff_ne.mpr hz1
  have z3 : (e1 == 0) = false := beq_eq_false_iff_ne.mpr hz1
  clear hz1
  rotate_left
  all_goals
   obtain ⟨p0, p1, p2, p3, p4, p5, p6, p7, p8⟩ := pcells HF.out.2.2.2.2.2.1
   obtain ⟨_, q23, q52, q53, q12, q13⟩ := HNE.out
   have q32 := q23.symm
   have ge_ := HNE.out.1
   go_wp2_with (fail)
   clear p0 p1 p2 p3 p4 p5 p6 p7 p8
   rename_i kk_ hkk_
   have A2 := Aside0.mk (HF.out.2.2.2.2.1)
   have A3 := Aside0.mk (HF.out.2.2.2.1)
   have Ag1 := Aside0.mk (HF.out.2.2.2.2.2.1)
   have Ag5 := Aside0.mk (HF.out.2.2.1)
   have AW := Aside0.mk (HF.out.2.2.2.2.2.2.2.2)
   have HS := Aside0.mk (Std.and (Std.blk Ag1.out) (Std.and (Std.blk Ag5.out) (Std.and (Std.blk A2.out) (Std.and (Std.blk A3.out) (Std.bel AW.out)))))
   have HS1 := Aside0.mk (Std.step HS.out (below_drew1 (Below.refl _ _)))
   refine start_ (n := 6) (S := fun w' => (w'.cell? ⟨g1, 0, none⟩ = some (.int .i64 1) ∧ w'.cell? ⟨g1, 1, none⟩ = some (.string a1) ∧ w'.cell? ⟨g1, 2, none⟩ = some (.int .i64 3) ∧ w'.cell? ⟨g1, 3, none⟩ = some (.int .i64 a3) ∧ w'.cell? ⟨g1, 4, none⟩ = some (.int .i64 a4) ∧ w'.cell? ⟨g1, 5, none⟩ = some (.float .f64 a5) ∧ w'.cell? ⟨g1, 6, none⟩ = some (.string a6) ∧ w'.cell? ⟨g1, 7, none⟩ = some (.slice A7 l7.length c7) ∧ w'.cell? ⟨g1, 8, none⟩ = some (.slice A8 l8.length c8)) ∧ (w'.cell? ⟨g5, 0, none⟩ = some (.int .i64 0) ∧ w'.cell? ⟨g5, 1, none⟩ = some (.int .i64 0) ∧ w'.cell? ⟨g5, 2, none⟩ = some (.float .f64 0) ∧ w'.cell? ⟨g5, 3, none⟩ = some (.string ⟨#[]⟩))) (ds := []) #[false, false, false, false, false, false] (by kernel_rfl) rfl rfl ⟨pcells (HS1.out.now.1), cells_4 (HS1.out.now.2.1)⟩ (fun hHeld => ?_)
   clear HS
   have HS := HS1
   clear HS1
   generalize World.drew _ = zr at HS hHeld ⊢
   refine takeP #[true, false, false, false, false, false] (by kernel_rfl) hHeld (i := 0) (N := some 76) ?_
   refine pureP #[true, true, false, false, false, false] (by kernel_rfl) (i := 1) (N := some 77) ?_
   refine takeP #[true, true, true, false, false, false] (by kernel_rfl) hHeld (i := 2) (N := some 78) ?_
   refine one_ (i := 3) (N := none) #[true, true, true, true, false, false] rfl rfl (by kernel_rfl) (by decide) (fun K hK => ?_)
   refine st_blk_step (by rfl) 28 _ _ rfl rfl (g := g2) #[.int .i64 0, .int .i64 0, .float .f64 0, .string ⟨#[]⟩] (by rfl) (by rfl) HS.out.now.2.2.1 (by rfl) (by kernel_rfl) (by simp [Value.oneCell']) ?_
   intro r2w hx_ ho_
   have B2 := Aside0.mk hx_
   have B3 := Aside0.mk (ho_.blk HS.out.now.2.2.2.1 q32)
   have Bg1 := Aside0.mk (ho_.blk HS.out.now.1 q12)
   have Bg5 := Aside0.mk (ho_.blk HS.out.now.2.1 q52)
   have BW := Aside0.mk (ho_.below HS.out.now.2.2.2.2 ge_.1)
   clear HS hx_ ho_
   refine hK.out _ _ ⟨pcells (Bg1.out), cells_4 (Bg5.out)⟩ (fun hHeld => ?_)
   clear hK K
   refine norm_ (a' := ?_) ?_ ?_
   rotate_left
   ·show Act.put _ (none) _ = _
    simp only [Act.put, List.setIfInBounds_toArray, List.set_cons_zero, List.set_cons_succ, i64_w, i32_w]
    rfl
   refine one_ (i := 4) (N := none) #[true, true, true, true, true, false] rfl rfl (by kernel_rfl) (by decide) (fun K hK => ?_)
   refine st_blk_step (by rfl) 28 _ _ rfl rfl (g := g3) #[.int .i64 a3, .int .i64 a4, .float .f64 a5, .string a6] (by rfl) (by rfl) B3.out (by rfl) (by kernel_rfl) (by simp [Value.oneCell']) ?_
   intro r3w hx_ ho_
   have C2 := Aside0.mk (ho_.blk B2.out q23)
   have C3 := Aside0.mk hx_
   have Cg1 := Aside0.mk (ho_.blk Bg1.out q13)
   have Cg5 := Aside0.mk (ho_.blk Bg5.out q53)
   have CW := Aside0.mk (ho_.below BW.out ge_.2)
   clear B2 B3 BW hx_ ho_
   refine hK.out _ _ ⟨pcells (Cg1.out), cells_4 (Cg5.out)⟩ (fun hHeld => ?_)
   clear hK K
   refine norm_ (a' := ?_) ?_ ?_
   rotate_left
   ·show Act.put _ (none) _ = _
    simp only [Act.put, List.setIfInBounds_toArray, List.set_cons_zero, List.set_cons_succ, i64_w, i32_w]
    rfl
   refine pureP #[true, true, true, true, true, true] (by kernel_rfl) (i := 5) (N := some 4) ?_
   refine done_ (by kernel_rfl) ?_
   clear hHeld
   refine then_normal ?_
   refine hkk_ _ _ (wp_ret ?_)
   (repeat refine then_ret ?_)
   refine bodyPost_ret (results_list (rs := [.cell 2 28, .cell 3 28, .tmp 4]) rfl (by simp) (.cell g2 28 #[_, _, _, _] (0, 0) _ rfl C2.out Try.underlying28 rfl (by kernel_rfl) (.cell g3 28 #[_, _, _, _] (0, 0) _ rfl C3.out Try.underlying28 rfl (by kernel_rfl) (.tmp .nil)))) rfl ?_
   exact ⟨rfl, CW.out⟩
 by_cases hB4 : a2 = 4
 ·subst hB4
  simp only [reduceIte, Int.reduceEq, or_true, true_or, or_self, or_false, false_or] at h
  obtain ⟨rfl, rfl, rfl, rfl, rfl, rfl, rfl, rfl, rfl⟩ := t9_inj h
  clear h
  rcases hzz with rfl | ⟨hz1, rfl⟩
  rotate_left
  have z1 : (e1 != 0) = true := bne_iff_ne.mpr hz1
  have z3 : (e1 == 0) = false := beq_eq_false_iff_ne.mpr hz1
  clear hz1
  rotate_left
  all_goals
   obtain ⟨p0, p1, p2, p3, p4, p5, p6, p7, p8⟩ := pcells HF.out.2.2.2.2.2.1
   obtain ⟨_, q23, q52, q53, q12, q13⟩ := HNE.out
   have q32 := q23.symm
   have ge_ := HNE.out.1
   go_wp2_with (fail)
   clear p0 p1 p2 p3 p4 p5 p6 p7 p8
   rename_i kk_ hkk_
   have A2 := Aside0.mk (HF.out.2.2.2.2.1)
   have A3 := Aside0.mk (HF.out.2.2.2.1)
   have Ag1 := Aside0.mk (HF.out.2.2.2.2.2.1)
   have Ag5 := Aside0.mk (HF.out.2.2.1)
   have AW := Aside0.mk (HF.out.2.2.2.2.2.2.2.2)
   have HS := Aside0.mk (Std.and (Std.blk Ag1.out) (Std.and (Std.blk Ag5.out) (Std.and (Std.blk A2.out) (Std.and (Std.blk A3.out) (Std.bel AW.out)))))
   have HS1 := Aside0.mk (Std.step HS.out (below_drew1 (Below.refl _ _)))
   refine start_ (n := 6) (S := fun w' => (w'.cell? ⟨g1, 0, none⟩ = some (.int .i64 1) ∧ w'.cell? ⟨g1, 1, none⟩ = some (.string a1) ∧ w'.cell? ⟨g1, 2, none⟩ = some (.int .i64 4) ∧ w'.cell? ⟨g1, 3, none⟩ = some (.int .i64 a3) ∧ w'.cell? ⟨g1, 4, none⟩ = some (.int .i64 a4) ∧ w'.cell? ⟨g1, 5, none⟩ = some (.float .f64 a5) ∧ w'.cell? ⟨g1, 6, none⟩ = some (.string a6) ∧ w'.cell? ⟨g1, 7, none⟩ = some (.slice A7 l7.length c7) ∧ w'.cell? ⟨g1, 8, none⟩ = some (.slice A8 l8.length c8)) ∧ (w'.cell? ⟨g5, 0, none⟩ = some (.int .i64 0) ∧ w'.cell? ⟨g5, 1, none⟩ = some (.int .i64 0) ∧ w'.cell? ⟨g5, 2, none⟩ = some (.float .f64 0) ∧ w'.cell? ⟨g5, 3, none⟩ = some (.string ⟨#[]⟩))) (ds := []) #[false, false, false, false, false, false] (by kernel_rfl) rfl rfl ⟨pcells (HS1.out.now.1), cells_4 (HS1.out.now.2.1)⟩ (fun hHeld => ?_)
   clear HS
   have HS := HS1
   clear HS1
   generalize World.drew _ = zr at HS hHeld ⊢
   refine takeP #[true, false, false, false, false, false] (by kernel_rfl) hHeld (i := 0) (N := some 76) ?_
   refine pureP #[true, true, false, false, false, false] (by kernel_rfl) (i := 1) (N := some 77) ?_
   refine takeP #[true, true, true, false, false, false] (by kernel_rfl) hHeld (i := 2) (N := some 78) ?_
   refine one_ (i := 3) (N := none) #[true, true, true, true, false, false] rfl rfl (by kernel_rfl) (by decide) (fun K hK => ?_)
   refine st_blk_step (by rfl) 28 _ _ rfl rfl (g := g2) #[.int .i64 0, .int .i64 0, .float .f64 0, .string ⟨#[]⟩] (by rfl) (by rfl) HS.out.now.2.2.1 (by rfl) (by kernel_rfl) (by simp [Value.oneCell']) ?_
   intro r2w hx_ ho_
   have B2 := Aside0.mk hx_
   have B3 := Aside0.mk (ho_.blk HS.out.now.2.2.2.1 q32)
   have Bg1 := Aside0.mk (ho_.blk HS.out.now.1 q12)
   have Bg5 := Aside0.mk (ho_.blk HS.out.now.2.1 q52)
   have BW := Aside0.mk (ho_.below HS.out.now.2.2.2.2 ge_.1)
   clear HS hx_ ho_
   refine hK.out _ _ ⟨pcells (Bg1.out), cells_4 (Bg5.out)⟩ (fun hHeld => ?_)
   clear hK K
   refine norm_ (a' := ?_) ?_ ?_
   rotate_left
   ·show Act.put _ (none) _ = _
    simp only [Act.put, List.setIfInBounds_toArray, List.set_cons_zero, List.set_cons_succ, i64_w, i32_w]
    rfl
   refine one_ (i := 4) (N := none) #[true, true, true, true, true, false] rfl rfl (by kernel_rfl) (by decide) (fun K hK => ?_)
   refine st_blk_step (by rfl) 28 _ _ rfl rfl (g := g3) #[.int .i64 a3, .int .i64 a4, .float .f64 a5, .string a6] (by rfl) (by rfl) B3.out (by rfl) (by kernel_rfl) (by simp [Value.oneCell']) ?_
   intro r3w hx_ ho_
   have C2 := Aside0.mk (ho_.blk B2.out q23)
   have C3 := Aside0.mk hx_
   have Cg1 := Aside0.mk (ho_.blk Bg1.out q13)
   have Cg5 := Aside0.mk (ho_.blk Bg5.out q53)
   have CW := Aside0.mk (ho_.below BW.out ge_.2)
   clear B2 B3 BW hx_ ho_
   refine hK.out _ _ ⟨pcells (Cg1.out), cells_4 (Cg5.out)⟩ (fun hHeld => ?_)
   clear hK K
   refine norm_ (a' := ?_) ?_ ?_
   rotate_left
   ·show Act.put _ (none) _ = _
    simp only [Act.put, List.setIfInBounds_toArray, List.set_cons_zero, List.set_cons_succ, i64_w, i32_w]
    rfl
   refine pureP #[true, true, true, true, true, true] (by kernel_rfl) (i := 5) (N := some 4) ?_
   refine done_ (by kernel_rfl) ?_
   clear hHeld
   refine then_normal ?_
   refine hkk_ _ _ (wp_ret ?_)
   (repeat refine then_ret ?_)
   refine bodyPost_ret (results_list (rs := [.cell 2 28, .cell 3 28, .tmp 4]) rfl (by simp) (.cell g2 28 #[_, _, _, _] (0, 0) _ rfl C2.out Try.underlying28 rfl (by kernel_rfl) (.cell g3 28 #[_, _, _, _] (0, 0) _ rfl C3.out Try.underlying28 rfl (by kernel_rfl) (.tmp .nil)))) rfl ?_
   exact ⟨rfl, CW.out⟩
 by_cases hB5 : a2 = 5
 ·subst hB5
  simp only [reduceIte, Int.reduceEq, or_true, true_or, or_self, or_false, false_or] at h
  obtain ⟨rfl, rfl, rfl, rfl, rfl, rfl, rfl, rfl, rfl⟩ := t9_inj h
  clear h
  rcases hzz with rfl | ⟨hz1, rfl⟩
  rotate_left
  have z1 : (e1 != 0) = true := bne_iff_ne.mpr hz1
  have z3 : (e1 == 0) = false := beq_eq_false_iff_ne.mpr hz1
  clear hz1
  rotate_left
  all_goals
   obtain ⟨p0, p1, p2, p3, p4, p5, p6, p7, p8⟩ := pcells HF.out.2.2.2.2.2.1
   obtain ⟨_, q23, q52, q53, q12, q13⟩ := HNE.out
   have q32 := q23.symm
   have ge_ := HNE.out.1
   go_wp2_with (fail)
   clear p0 p1 p2 p3 p4 p5 p6 p7 p8
   rename_i kk_ hkk_
   have A2 := Aside0.mk (HF.out.2.2.2.2.1)
   have A3 := Aside0.mk (HF.out.2.2.2.1)
   have Ag1 := Aside0.mk (HF.out.2.2.2.2.2.1)
   have Ag5 := Aside0.mk (HF.out.2.2.1)
   have AW := Aside0.mk (HF.out.2.2.2.2.2.2.2.2)
   have HS := Aside0.mk (Std.and (Std.blk Ag1.out) (Std.and (Std.blk Ag5.out) (Std.and (Std.blk A2.out) (Std.and (Std.blk A3.out) (Std.bel AW.out)))))
   have HS1 := Aside0.mk (Std.step HS.out (below_drew1 (Below.refl _ _)))
   refine start_ (n := 6) (S := fun w' => (w'.cell? ⟨g1, 0, none⟩ = some (.int .i64 1) ∧ w'.cell? ⟨g1, 1, none⟩ = some (.string a1) ∧ w'.cell? ⟨g1, 2, none⟩ = some (.int .i64 5) ∧ w'.cell? ⟨g1, 3, none⟩ = some (.int .i64 a3) ∧ w'.cell? ⟨g1, 4, none⟩ = some (.int .i64 a4) ∧ w'.cell? ⟨g1, 5, none⟩ = some (.float .f64 a5) ∧ w'.cell? ⟨g1, 6, none⟩ = some (.string a6) ∧ w'.cell? ⟨g1, 7, none⟩ = some (.slice A7 l7.length c7) ∧ w'.cell? ⟨g1, 8, none⟩ = some (.slice A8 l8.length c8)) ∧ (w'.cell? ⟨g5, 0, none⟩ = some (.int .i64 0) ∧ w'.cell? ⟨g5, 1, none⟩ = some (.int .i64 0) ∧ w'.cell? ⟨g5, 2, none⟩ = some (.float .f64 0) ∧ w'.cell? ⟨g5, 3, none⟩ = some (.string ⟨#[]⟩))) (ds := []) #[false, false, false, false, false, false] (by kernel_rfl) rfl rfl ⟨pcells (HS1.out.now.1), cells_4 (HS1.out.now.2.1)⟩ (fun hHeld => ?_)
   clear HS
   have HS := HS1
   clear HS1
   generalize World.drew _ = zr at HS hHeld ⊢
   refine pureP #[true, false, false, false, false, false] (by kernel_rfl) (i := 0) (N := some 65) ?_
   refine takeP #[true, true, false, false, false, false] (by kernel_rfl) hHeld (i := 1) (N := some 66) ?_
   refine takeP #[true, true, true, false, false, false] (by kernel_rfl) hHeld (i := 2) (N := some 67) ?_
   refine one_ (i := 3) (N := none) #[true, true, true, true, false, false] rfl rfl (by kernel_rfl) (by decide) (fun K hK => ?_)
   refine st_blk_step (by rfl) 28 _ _ rfl rfl (g := g2) #[.int .i64 a3, .int .i64 a4, .float .f64 a5, .string a6] (by rfl) (by rfl) HS.out.now.2.2.1 (by rfl) (by kernel_rfl) (by simp [Value.oneCell']) ?_
   intro r2w hx_ ho_
   have B2 := Aside0.mk hx_
   have B3 := Aside0.mk (ho_.blk HS.out.now.2.2.2.1 q32)
   have Bg1 := Aside0.mk (ho_.blk HS.out.now.1 q12)
   have Bg5 := Aside0.mk (ho_.blk HS.out.now.2.1 q52)
   have BW := Aside0.mk (ho_.below HS.out.now.2.2.2.2 ge_.1)
   clear HS hx_ ho_
   refine hK.out _ _ ⟨pcells (Bg1.out), cells_4 (Bg5.out)⟩ (fun hHeld => ?_)
   clear hK K
   refine norm_ (a' := ?_) ?_ ?_
   rotate_left
   ·show Act.put _ (none) _ = _
    simp only [Act.put, List.setIfInBounds_toArray, List.set_cons_zero, List.set_cons_succ, i64_w, i32_w]
    rfl
   refine one_ (i := 4) (N := none) #[true, true, true, true, true, false] rfl rfl (by kernel_rfl) (by decide) (fun K hK => ?_)
   refine st_blk_step (by rfl) 28 _ _ rfl rfl (g := g3) #[.int .i64 0, .int .i64 0, .float .f64 0, .string ⟨#[]⟩] (by rfl) (by rfl) B3.out (by rfl) (by kernel_rfl) (by simp [Value.oneCell']) ?_
   intro r3w hx_ ho_
   have C2 := Aside0.mk (ho_.blk B2.out q23)
   have C3 := Aside0.mk hx_
   have Cg1 := Aside0.mk (ho_.blk Bg1.out q13)
   have Cg5 := Aside0.mk (ho_.blk Bg5.out q53)
   have CW := Aside0.mk (ho_.below BW.out ge_.2)
   clear B2 B3 BW hx_ ho_
   refine hK.out _ _ ⟨pcells (Cg1.out), cells_4 (Cg5.out)⟩ (fun hHeld => ?_)
   clear hK K
   refine norm_ (a' := ?_) ?_ ?_
   rotate_left
   ·show Act.put _ (none) _ = _
    simp only [Act.put, List.setIfInBounds_toArray, List.set_cons_zero, List.set_cons_succ, i64_w, i32_w]
    rfl
   refine pureP #[true, true, true, true, true, true] (by kernel_rfl) (i := 5) (N := some 4) ?_
   refine done_ (by kernel_rfl) ?_
   clear hHeld
   refine then_normal ?_
   refine hkk_ _ _ (wp_ret ?_)
   (repeat refine then_ret ?_)
   refine bodyPost_ret (results_list (rs := [.cell 2 28, .cell 3 28, .tmp 4]) rfl (by simp) (.cell g2 28 #[_, _, _, _] (0, 0) _ rfl C2.out Try.underlying28 rfl (by kernel_rfl) (.cell g3 28 #[_, _, _, _] (0, 0) _ rfl C3.out Try.underlying28 rfl (by kernel_rfl) (.tmp .nil)))) rfl ?_
   exact ⟨rfl, CW.out⟩
 by_cases hB6 : a2 = 6
 ·subst hB6
  simp only [reduceIte, Int.reduceEq, or_true, true_or, or_self, or_false, false_or] at h
  obtain ⟨rfl, rfl, rfl, rfl, rfl, rfl, rfl, rfl, rfl⟩ := t9_inj h
  clear h
  rcases hzz with rfl | ⟨hz1, rfl⟩
  rotate_left
  have z1 : (e1 != 0) = true := bne_iff_ne.mpr hz1
  have z3 : (e1 == 0) = false := beq_eq_false_iff_ne.mpr hz1
  clear hz1
  rotate_left
  all_goals
   obtain ⟨p0, p1, p2, p3, p4, p5, p6, p7, p8⟩ := pcells HF.out.2.2.2.2.2.1
   obtain ⟨_, q23, q52, q53, q12, q13⟩ := HNE.out
   have q32 := q23.symm
   have ge_ := HNE.out.1
   go_wp2_with (fail)
   clear p0 p1 p2 p3 p4 p5 p6 p7 p8
   rename_i kk_ hkk_
   have A2 := Aside0.mk (HF.out.2.2.2.2.1)
   have A3 := Aside0.mk (HF.out.2.2.2.1)
   have Ag1 := Aside0.mk (HF.out.2.2.2.2.2.1)
   have Ag5 := Aside0.mk (HF.out.2.2.1)
   have AW := Aside0.mk (HF.out.2.2.2.2.2.2.2.2)
   have HS := Aside0.mk (Std.and (Std.blk Ag1.out) (Std.and (Std.blk Ag5.out) (Std.and (Std.blk A2.out) (Std.and (Std.blk A3.out) (Std.bel AW.out)))))
   have HS1 := Aside0.mk (Std.step HS.out (below_drew1 (Below.refl _ _)))
   refine start_ (n := 6) (S := fun w' => (w'.cell? ⟨g1, 0, none⟩ = some (.int .i64 1) ∧ w'.cell? ⟨g1, 1, none⟩ = some (.string a1) ∧ w'.cell? ⟨g1, 2, none⟩ = some (.int .i64 6) ∧ w'.cell? ⟨g1, 3, none⟩ = some (.int .i64 a3) ∧ w'.cell? ⟨g1, 4, none⟩ = some (.int .i64 a4) ∧ w'.cell? ⟨g1, 5, none⟩ = some (.float .f64 a5) ∧ w'.cell? ⟨g1, 6, none⟩ = some (.string a6) ∧ w'.cell? ⟨g1, 7, none⟩ = some (.slice A7 l7.length c7) ∧ w'.cell? ⟨g1, 8, none⟩ = some (.slice A8 l8.length c8)) ∧ (w'.cell? ⟨g5, 0, none⟩ = some (.int .i64 0) ∧ w'.cell? ⟨g5, 1, none⟩ = some (.int .i64 0) ∧ w'.cell? ⟨g5, 2, none⟩ = some (.float .f64 0) ∧ w'.cell? ⟨g5, 3, none⟩ = some (.string ⟨#[]⟩))) (ds := []) #[false, false, false, false, false, false] (by kernel_rfl) rfl rfl ⟨pcells (HS1.out.now.1), cells_4 (HS1.out.now.2.1)⟩ (fun hHeld => ?_)
   clear HS
   have HS := HS1
   clear HS1
   generalize World.drew _ = zr at HS hHeld ⊢
   refine pureP #[true, false, false, false, false, false] (by kernel_rfl) (i := 0) (N := some 65) ?_
   refine takeP #[true, true, false, false, false, false] (by kernel_rfl) hHeld (i := 1) (N := some 66) ?_
   refine takeP #[true, true, true, false, false, false] (by kernel_rfl) hHeld (i := 2) (N := some 67) ?_
   refine one_ (i := 3) (N := none) #[true, true, true, true, false, false] rfl rfl (by kernel_rfl) (by decide) (fun K hK => ?_)
   refine st_blk_step (by rfl) 28 _ _ rfl rfl (g := g2) #[.int .i64 a3, .int .i64 a4, .float .f64 a5, .string a6] (by rfl) (by rfl) HS.out.now.2.2.1 (by rfl) (by kernel_rfl) (by simp [Value.oneCell']) ?_
   intro r2w hx_ ho_
   have B2 := Aside0.mk hx_
   have B3 := Aside0.mk (ho_.blk HS.out.now.2.2.2.1 q32)
   have Bg1 := Aside0.mk (ho_.blk HS.out.now.1 q12)
   have Bg5 := Aside0.mk (ho_.blk HS.out.now.2.1 q52)
   have BW := Aside0.mk (ho_.below HS.out.now.2.2.2.2 ge_.1)
   clear HS hx_ ho_
   refine hK.out _ _ ⟨pcells (Bg1.out), cells_4 (Bg5.out)⟩ (fun hHeld => ?_)
   clear hK K
   refine norm_ (a' := ?_) ?_ ?_
   rotate_left
   ·show Act.put _ (none) _ = _
    simp only [Act.put, List.setIfInBounds_toArray, List.set_cons_zero, List.set_cons_succ, i64_w, i32_w]
    rfl
   refine one_ (i := 4) (N := none) #[true, true, true, true, true, false] rfl rfl (by kernel_rfl) (by decide) (fun K hK => ?_)
   refine st_blk_step (by rfl) 28 _ _ rfl rfl (g := g3) #[.int .i64 0, .int .i64 0, .float .f64 0, .string ⟨#[]⟩] (by rfl) (by rfl) B3.out (by rfl) (by kernel_rfl) (by simp [Value.oneCell']) ?_
   intro r3w hx_ ho_
   have C2 := Aside0.mk (ho_.blk B2.out q23)
   have C3 := Aside0.mk hx_
   have Cg1 := Aside0.mk (ho_.blk Bg1.out q13)
   have Cg5 := Aside0.mk (ho_.blk Bg5.out q53)
   have CW := Aside0.mk (ho_.below BW.out ge_.2)
   clear B2 B3 BW hx_ ho_
   refine hK.out _ _ ⟨pcells (Cg1.out), cells_4 (Cg5.out)⟩ (fun hHeld => ?_)
   clear hK K
   refine norm_ (a' := ?_) ?_ ?_
   rotate_left
   ·show Act.put _ (none) _ = _
    simp only [Act.put, List.setIfInBounds_toArray, List.set_cons_zero, List.set_cons_succ, i64_w, i32_w]
    rfl
   refine pureP #[true, true, true, true, true, true] (by kernel_rfl) (i := 5) (N := some 4) ?_
   refine done_ (by kernel_rfl) ?_
   clear hHeld
   refine then_normal ?_
   refine hkk_ _ _ (wp_ret ?_)
   (repeat refine then_ret ?_)
   refine bodyPost_ret (results_list (rs := [.cell 2 28, .cell 3 28, .tmp 4]) rfl (by simp) (.cell g2 28 #[_, _, _, _] (0, 0) _ rfl C2.out Try.underlying28 rfl (by kernel_rfl) (.cell g3 28 #[_, _, _, _] (0, 0) _ rfl C3.out Try.underlying28 rfl (by kernel_rfl) (.tmp .nil)))) rfl ?_
   exact ⟨rfl, CW.out⟩
 simp only [hB1, hB2, hB3, hB4, hB5, hB6, or_self, if_false] at h
 cases h
end Go.Proofs.Ytkedejphebfneaa.Pa
