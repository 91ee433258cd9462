/- The texts of AtomBounded, merged: part 14. -/
import Derived.Test.YtkedejphebfneaaQAtomBounded11
import Derived.Test.YtkedejphebfneaaQAtomBounded6
/- slices.MinFunc and MaxFunc over values, by value.Compare: their walks by hand. -/
namespace Go.Proofs.Ytkedejphebfneaa.Pa
open Go.Proofs.Ytkedejphebfneaa.L Go.RowKit Go.Proofs.YtkedejphebfneaaW.PrintWords Go.Proofs.YtkedejphebfneaaW.PrintLast Go.Proofs.YtkedejphebfneaaW.PrintMore
set_option linter.unusedVariables false
set_option linter.unusedSimpArgs false
attribute [local go_sem] run_store_float cmp_feq cmp_fne cmp_flt cmp_fle cmp_fgt cmp_fge un_fneg equalIn_feq run_fop run_fint run_freal cmp_sgt
def minT (k : Nat) : S28 → List S28 → Option S28
 | m, [] => some m
 | m, c :: cs => (value_Compare.f k c.f0 c.f1 c.f2 c.f3 m.f0 m.f1 m.f2 m.f3).bind fun r => if r < 0 then minT k c cs else minT k m cs
def minCompare.f (k : Nat) : List S28 → Option S28
 | [] => none
 | c :: cs => minT k c cs
theorem minT_mono (k : Nat) : ∀ (l : List S28) (m : S28), LeO (minT k m l) (minT (k + 1) m l)
 | [], _ => LeO.refl _
 | c :: cs, m => by
  rw [minT, minT]
  exact LeO.bind (value_Compare.mono _ _ _ _ _ _ _ _ _) (fun r => LeO.ite (minT_mono k cs c) (minT_mono k cs m))
theorem minCompare.mono (l : List S28) (k : Nat) : LeO (minCompare.f k l) (minCompare.f (k + 1) l) := by
 cases l with
 | nil => exact LeO.refl _
 | cons c cs => exact minT_mono k cs c
theorem keepM {wr W : World} {a : Addr} {g : Nat} {c m : S28} (hB : Below wr.heap.size wr W) (x0 : wr.cell? a = some (.int .i64 c.f0)) (x1 : wr.cell? ⟨a.block, a.off + 1, none⟩ = some (.int .i64 c.f1)) (x2 : wr.cell? ⟨a.block, a.off + 2, none⟩ = some (.float .f64 c.f2)) (x3 : wr.cell? ⟨a.block, a.off + 3, none⟩ = some (.string c.f3))
  (y0 : wr.cell? ⟨g, 0, none⟩ = some (.int .i64 m.f0)) (y1 : wr.cell? ⟨g, 1, none⟩ = some (.int .i64 m.f1)) (y2 : wr.cell? ⟨g, 2, none⟩ = some (.float .f64 m.f2)) (y3 : wr.cell? ⟨g, 3, none⟩ = some (.string m.f3)) :
  W.cell? a = some (.int .i64 c.f0) ∧ W.cell? ⟨a.block, a.off + 1, none⟩ = some (.int .i64 c.f1) ∧ W.cell? ⟨a.block, a.off + 2, none⟩ = some (.float .f64 c.f2) ∧ W.cell? ⟨a.block, a.off + 3, none⟩ = some (.string c.f3) ∧ W.cell? ⟨g, 0, none⟩ = some (.int .i64 m.f0) ∧ W.cell? ⟨g, 1, none⟩ = some (.int .i64 m.f1) ∧ W.cell? ⟨g, 2, none⟩ = some (.float .f64 m.f2) ∧ W.cell? ⟨g, 3, none⟩ = some (.string m.f3) ∧ Aside0 (Below wr.heap.size wr W) :=
 ⟨pw_cell_below hB x0, pw_cell_below hB x1, pw_cell_below hB x2, pw_cell_below hB x3, pw_cell_below hB y0, pw_cell_below hB y1, pw_cell_below hB y2, pw_cell_below hB y3, ⟨hB⟩⟩
set_option maxHeartbeats 8000000 in
theorem minCompare.calls (k : Nat) (A0 : Option Addr) (c0 : Nat) (l : List S28) (r : S28) (w : World) (hr0 : Kd.C k28 w A0 l.length l) (hc0 : l.length ≤ c0) (h : minCompare.f k l = some r) :
  Calls Try.prog 56 #[.slice A0 l.length c0, .func (.func 29) #[] #[]] w fun e w' => e = .returned (.agg #[.int .i64 r.f0, .int .i64 r.f1, .float .f64 r.f2, .string r.f3]) ∧ Below w.heap.size w w' := by
 have hR0 := Aside0.mk hr0
 have hm := hr0.2.1
 obtain ⟨m0, hm0, h1, h9⟩ : ∃ m0, m0 = rd_T28 l 0 ∧ 1 ≤ l.length ∧ minT k m0 (l.drop 1) = some r := by
  cases l with
  | nil => cases h
  | cons c cs => exact ⟨c, rfl, by simp, h⟩
 obtain ⟨ad, e1, x0, x1, x2, x3⟩ := at_T28 (Kd.C_alloc hr0 (.cells #[.int .i64 0, .int .i64 0, .float .f64 0, .string ⟨#[]⟩] 28)) 0 (by omega) (by omega)
 rw [← hm0] at x0 x1 x2 x3
 have ea : ad.add 0 = ad := rfl
 have d1 : decide ((l.length : Int) < 1) = false := by simp; omega
 have q0 : decide (0 < l.length) = true := by simp; omega
 have q1 : (0 : Int) < (l.length : Int) := by omega
 subst e1
 simp only [Int.toNat_zero, Nat.zero_mul, ea] at x0 x1 x2 x3
 clear ea
 have H0 := Aside0.mk h9
 clear hr0 h h9
 replace hm0 := Aside0.mk hm0
 go_enter Try.func56, Try.ntmps56
 go_wp2_with (fail)
 go_loopg [6] (l.length - 1) (fun kq v6 w' => ∃ (i : Nat) (m : S28), v6 = .int .i64 i ∧ Aside0 (kq = l.length - i ∧ 1 ≤ i ∧ i ≤ l.length ∧ minT k m (l.drop i) = some r) ∧ Aside0 (w'.heap[w.heap.size]? = some (.cells #[.int .i64 0, .int .i64 0, .float .f64 0, .string ⟨#[]⟩] 28 (0, 0)) ∧ w'.heap[w.heap.size + 1]? = some (.cells #[.int .i64 m.f0, .int .i64 m.f1, .float .f64 m.f2, .string m.f3] 28 (0, 0))) ∧ Aside0 (Below w.heap.size w w'))
 case atStart => exact ⟨1, m0, rfl, ⟨rfl, by omega, by omega, H0.out⟩, ⟨blk_alloc (blk_new _ _) _, by simpa using blk_new (w.alloc _) _⟩, ⟨below_alloc (below_alloc (Below.refl _ _) _) _⟩⟩
 case round =>
  obtain ⟨i, m, rfl, hi, hK, hB⟩ := hrel
  clear x0 x1 x2 x3
  have HI := hi.out.2.2.2
  rcases Nat.lt_or_ge i l.length with hlt | hge
  ·have hR1 := Kd.C_below hR0.out hB.out
   have p1 : (0 : Int) ≤ i := by omega
   have q1 : (i : Int) < (l.length : Int) := by omega
   obtain ⟨ad', e1, x0, x1, x2, x3⟩ := at_T28 hR1 i p1 q1
   clear hR1
   obtain rfl := Option.some.inj e1
   clear e1
   obtain ⟨c, hc⟩ : ∃ c, c = rd_T28 l i := ⟨_, rfl⟩
   rw [← hc] at x0 x1 x2 x3
   have hdr : l.drop i = c :: l.drop (i + 1) := by rw [List.drop_eq_getElem_cons hlt, hc]; simp [rd_T28, List.getD_eq_getElem?_getD, List.getElem?_eq_getElem hlt]
   replace hc := Aside0.mk hc
   simp only [Int.toNat_natCast] at x0 x1 x2 x3
   rw [hdr, minT] at HI
   obtain ⟨b, hqb, HI⟩ := Option.bind_eq_some_iff.1 HI
   have hw9 : wrap64 ((i : Int) + 1) = ((i + 1 : Nat) : Int) := by rw [wrap64_in (by omega) (by omega)]; omega
   have hC := Aside0.mk (fun W => value_Compare.calls k c.f0 c.f1 c.f2 c.f3 m.f0 m.f1 m.f2 m.f3 b W hqb)
   clear hqb
   replace hdr := Aside0.mk hdr
   have y0 : wr.cell? ⟨w.heap.size + 1, 0, none⟩ = some (.int .i64 m.f0) := (blk_cell hK.out.2 0).trans rfl
   have y1 : wr.cell? ⟨w.heap.size + 1, 1, none⟩ = some (.int .i64 m.f1) := (blk_cell hK.out.2 1).trans rfl
   have y2 : wr.cell? ⟨w.heap.size + 1, 2, none⟩ = some (.float .f64 m.f2) := (blk_cell hK.out.2 2).trans rfl
   have y3 : wr.cell? ⟨w.heap.size + 1, 3, none⟩ = some (.string m.f3) := (blk_cell hK.out.2 3).trans rfl
   go_wp2_with (fail)
   go_region_held3 (fun w' => w'.cell? (ad.add (i * 4)) = some (.int .i64 c.f0) ∧ w'.cell? ⟨(ad.add (i * 4)).block, (ad.add (i * 4)).off + 1, none⟩ = some (.int .i64 c.f1) ∧ w'.cell? ⟨(ad.add (i * 4)).block, (ad.add (i * 4)).off + 2, none⟩ = some (.float .f64 c.f2) ∧ w'.cell? ⟨(ad.add (i * 4)).block, (ad.add (i * 4)).off + 3, none⟩ = some (.string c.f3) ∧ w'.cell? ⟨w.heap.size + 1, 0, none⟩ = some (.int .i64 m.f0) ∧ w'.cell? ⟨w.heap.size + 1, 1, none⟩ = some (.int .i64 m.f1) ∧ w'.cell? ⟨w.heap.size + 1, 2, none⟩ = some (.float .f64 m.f2) ∧ w'.cell? ⟨w.heap.size + 1, 3, none⟩ = some (.string m.f3) ∧ Aside0 (Below wr.heap.size wr w')) (first | exact keepM (below_drew (Below.refl _ _)) x0 x1 x2 x3 y0 y1 y2 y3 | exact keepM (below_then (below_drew (Below.refl _ _)) (Nat.le_refl _) hb2) x0 x1 x2 x3 y0 y1 y2 y3)
    (first | (go_at_call 29; refine (hC.out _).mono ?_; rintro e w2 ⟨rfl, hb2⟩))
   have hb3 : Below wr.heap.size wr w2 := below_then (below_drew (Below.refl _ _)) (Nat.le_refl _) hb2
   have K1 := Aside0.mk (blk_below hK.out.1 hb3)
   have K2 := Aside0.mk (blk_below hK.out.2 hb3)
   have HB2 := Aside0.mk (below_then hB.out hB.out.size hb3)
   have z0 : w2.frozen? ⟨w.heap.size + 1, 0, none⟩ = false := blk_frozen K2.out 0
   have z1 : w2.frozen? ⟨w.heap.size + 1, 1, none⟩ = false := blk_frozen K2.out 1
   have z2 : w2.frozen? ⟨w.heap.size + 1, 2, none⟩ = false := blk_frozen K2.out 2
   have z3 : w2.frozen? ⟨w.heap.size + 1, 3, none⟩ = false := blk_frozen K2.out 3
   clear hb2 hb3 y0 y1 y2 y3
   replace HI := Aside0.mk HI
   go_wp2_with (fail)
   ·have hb : b < 0 := by assumption
    have HJ := HI.out
    rw [if_pos hb] at HJ
    go_roundg (l.length - (i + 1))
    case measure => have := hi.out.1; omega
    case rel => exact ⟨i + 1, c, by simp, ⟨rfl, by omega, by omega, HJ⟩, ⟨by (repeat rw [Below.heap_setCell _ _ _ _ (by simp)]); exact K1.out, by refine blk_put (cs := #[.int .i64 c.f0, .int .i64 c.f1, .float .f64 c.f2, .string m.f3]) ?_ 3 _ rfl; refine blk_put (cs := #[.int .i64 c.f0, .int .i64 c.f1, .float .f64 m.f2, .string m.f3]) ?_ 2 _ rfl; refine blk_put (cs := #[.int .i64 c.f0, .int .i64 m.f1, .float .f64 m.f2, .string m.f3]) ?_ 1 _ rfl; refine blk_put (cs := #[.int .i64 m.f0, .int .i64 m.f1, .float .f64 m.f2, .string m.f3]) ?_ 0 _ rfl; exact K2.out⟩, ⟨by (repeat refine below_set ?_ (by omega)); exact HB2.out⟩⟩
   ·have hb : ¬ b < 0 := by omega
    have HJ := HI.out
    rw [if_neg hb] at HJ
    go_roundg (l.length - (i + 1))
    case measure => have := hi.out.1; omega
    case rel => exact ⟨i + 1, m, by simp, ⟨rfl, by omega, by omega, HJ⟩, ⟨K1.out, K2.out⟩, ⟨HB2.out⟩⟩
  ·have he : i = l.length := by have := hi.out.2.2.1; omega
   rw [List.drop_eq_nil_of_le (by omega), minT] at HI
   obtain rfl := Option.some.inj HI
   clear HI
   subst he
   have y0 : wr.cell? ⟨w.heap.size + 1, 0, none⟩ = some (.int .i64 m.f0) := (blk_cell hK.out.2 0).trans rfl
   have y1 : wr.cell? ⟨w.heap.size + 1, 1, none⟩ = some (.int .i64 m.f1) := (blk_cell hK.out.2 1).trans rfl
   have y2 : wr.cell? ⟨w.heap.size + 1, 2, none⟩ = some (.float .f64 m.f2) := (blk_cell hK.out.2 2).trans rfl
   have y3 : wr.cell? ⟨w.heap.size + 1, 3, none⟩ = some (.string m.f3) := (blk_cell hK.out.2 3).trans rfl
   have u0 : wr.cell? ⟨w.heap.size, 0, none⟩ = some (.int .i64 0) := (blk_cell hK.out.1 0).trans rfl
   have u1 : wr.cell? ⟨w.heap.size, 1, none⟩ = some (.int .i64 0) := (blk_cell hK.out.1 1).trans rfl
   have u2 : wr.cell? ⟨w.heap.size, 2, none⟩ = some (.float .f64 0) := (blk_cell hK.out.1 2).trans rfl
   have u3 : wr.cell? ⟨w.heap.size, 3, none⟩ = some (.string ⟨#[]⟩) := (blk_cell hK.out.1 3).trans rfl
   have z0 : wr.frozen? ⟨w.heap.size, 0, none⟩ = false := blk_frozen hK.out.1 0
   have z1 : wr.frozen? ⟨w.heap.size, 1, none⟩ = false := blk_frozen hK.out.1 1
   have z2 : wr.frozen? ⟨w.heap.size, 2, none⟩ = false := blk_frozen hK.out.1 2
   have z3 : wr.frozen? ⟨w.heap.size, 3, none⟩ = false := blk_frozen hK.out.1 3
   go_wp2_with (fail)
   refine bodyPost_ret (results_cell_row rfl _ _ w.heap.size 28 #[.int .i64 m.f0, .int .i64 m.f1, .float .f64 m.f2, .string m.f3] (0, 0) _ rfl (by refine blk_put (cs := #[.int .i64 m.f0, .int .i64 m.f1, .float .f64 m.f2, .string ⟨#[]⟩]) ?_ 3 _ rfl; refine blk_put (cs := #[.int .i64 m.f0, .int .i64 m.f1, .float .f64 0, .string ⟨#[]⟩]) ?_ 2 _ rfl; refine blk_put (cs := #[.int .i64 m.f0, .int .i64 0, .float .f64 0, .string ⟨#[]⟩]) ?_ 1 _ rfl; refine blk_put (cs := #[.int .i64 0, .int .i64 0, .float .f64 0, .string ⟨#[]⟩]) ?_ 0 _ rfl; exact hK.out.1) Try.underlying28 rfl (by kernel_rfl)) rfl ?_
   exact ⟨rfl, by (repeat refine below_set ?_ (by omega)); exact hB.out⟩
def maxT (k : Nat) : S28 → List S28 → Option S28
 | m, [] => some m
 | m, c :: cs => (value_Compare.f k c.f0 c.f1 c.f2 c.f3 m.f0 m.f1 m.f2 m.f3).bind fun r => if r > 0 then maxT k c cs else maxT k m cs
def maxCompare.f (k : Nat) : List S28 → Option S28
 | [] => none
 | c :: cs => maxT k c cs
theorem maxT_mono (k : Nat) : ∀ (l : List S28) (m : S28), LeO (maxT k m l) (maxT (k + 1) m l)
 | [], _ => LeO.refl _
 | c :: cs, m => by
  rw [maxT, maxT]
  exact LeO.bind (value_Compare.mono _ _ _ _ _ _ _ _ _) (fun r => LeO.ite (maxT_mono k cs c) (maxT_mono k cs m))
theorem maxCompare.mono (l : List S28) (k : Nat) : LeO (maxCompare.f k l) (maxCompare.f (k + 1) l) := by
 cases l with
 | nil => exact LeO.refl _
 | cons c cs => exact maxT_mono k cs c
set_option maxHeartbeats 8000000 in
theorem maxCompare.calls (k : Nat) (A0 : Option Addr) (c0 : Nat) (l : List S28) (r : S28) (w : World) (hr0 : Kd.C k28 w A0 l.length l) (hc0 : l.length ≤ c0) (h : maxCompare.f k l = some r) :
  Calls Try.prog 57 #[.slice A0 l.length c0, .func (.func 29) #[] #[]] w fun e w' => e = .returned (.agg #[.int .i64 r.f0, .int .i64 r.f1, .float .f64 r.f2, .string r.f3]) ∧ Below w.heap.size w w' := by
 have hR0 := Aside0.mk hr0
 have hm := hr0.2.1
 obtain ⟨m0, hm0, h1, h9⟩ : ∃ m0, m0 = rd_T28 l 0 ∧ 1 ≤ l.length ∧ maxT k m0 (l.drop 1) = some r := by
  cases l with
  | nil => cases h
  | cons c cs => exact ⟨c, rfl, by simp, h⟩
 obtain ⟨ad, e1, x0, x1, x2, x3⟩ := at_T28 (Kd.C_alloc hr0 (.cells #[.int .i64 0, .int .i64 0, .float .f64 0, .string ⟨#[]⟩] 28)) 0 (by omega) (by omega)
 rw [← hm0] at x0 x1 x2 x3
 have ea : ad.add 0 = ad := rfl
 have d1 : decide ((l.length : Int) < 1) = false := by simp; omega
 have q0 : decide (0 < l.length) = true := by simp; omega
 have q1 : (0 : Int) < (l.length : Int) := by omega
 subst e1
 simp only [Int.toNat_zero, Nat.zero_mul, ea] at x0 x1 x2 x3
 clear ea
 have H0 := Aside0.mk h9
 clear hr0 h h9
 replace hm0 := Aside0.mk hm0
 go_enter Try.func57, Try.ntmps57
 go_wp2_with (fail)
 go_loopg [6] (l.length - 1) (fun kq v6 w' => ∃ (i : Nat) (m : S28), v6 = .int .i64 i ∧ Aside0 (kq = l.length - i ∧ 1 ≤ i ∧ i ≤ l.length ∧ maxT k m (l.drop i) = some r) ∧ Aside0 (w'.heap[w.heap.size]? = some (.cells #[.int .i64 0, .int .i64 0, .float .f64 0, .string ⟨#[]⟩] 28 (0, 0)) ∧ w'.heap[w.heap.size + 1]? = some (.cells #[.int .i64 m.f0, .int .i64 m.f1, .float .f64 m.f2, .string m.f3] 28 (0, 0))) ∧ Aside0 (Below w.heap.size w w'))
 case atStart => exact ⟨1, m0, rfl, ⟨rfl, by omega, by omega, H0.out⟩, ⟨blk_alloc (blk_new _ _) _, by simpa using blk_new (w.alloc _) _⟩, ⟨below_alloc (below_alloc (Below.refl _ _) _) _⟩⟩
 case round =>
  obtain ⟨i, m, rfl, hi, hK, hB⟩ := hrel
  clear x0 x1 x2 x3
  have HI := hi.out.2.2.2
  rcases Nat.lt_or_ge i l.length with hlt | hge
  ·have hR1 := Kd.C_below hR0.out hB.out
   have p1 : (0 : Int) ≤ i := by omega
   have q1 : (i : Int) < (l.length : Int) := by omega
   obtain ⟨ad', e1, x0, x1, x2, x3⟩ := at_T28 hR1 i p1 q1
   clear hR1
   obtain rfl := Option.some.inj e1
   clear e1
   obtain ⟨c, hc⟩ : ∃ c, c = rd_T28 l i := ⟨_, rfl⟩
   rw [← hc] at x0 x1 x2 x3
   have hdr : l.drop i = c :: l.drop (i + 1) := by rw [List.drop_eq_getElem_cons hlt, hc]; simp [rd_T28, List.getD_eq_getElem?_getD, List.getElem?_eq_getElem hlt]
   replace hc := Aside0.mk hc
   simp only [Int.toNat_natCast] at x0 x1 x2 x3
   rw [hdr, maxT] at HI
   obtain ⟨b, hqb, HI⟩ := Option.bind_eq_some_iff.1 HI
   have hw9 : wrap64 ((i : Int) + 1) = ((i + 1 : Nat) : Int) := by rw [wrap64_in (by omega) (by omega)]; omega
   have hC := Aside0.mk (fun W => value_Compare.calls k c.f0 c.f1 c.f2 c.f3 m.f0 m.f1 m.f2 m.f3 b W hqb)
   clear hqb
   replace hdr := Aside0.mk hdr
   have y0 : wr.cell? ⟨w.heap.size + 1, 0, none⟩ = some (.int .i64 m.f0) := (blk_cell hK.out.2 0).trans rfl
   have y1 : wr.cell? ⟨w.heap.size + 1, 1, none⟩ = some (.int .i64 m.f1) := (blk_cell hK.out.2 1).trans rfl
   have y2 : wr.cell? ⟨w.heap.size + 1, 2, none⟩ = some (.float .f64 m.f2) := (blk_cell hK.out.2 2).trans rfl
   have y3 : wr.cell? ⟨w.heap.size + 1, 3, none⟩ = some (.string m.f3) := (blk_cell hK.out.2 3).trans rfl
   go_wp2_with (fail)
   go_region_held3 (fun w' => w'.cell? (ad.add (i * 4)) = some (.int .i64 c.f0) ∧ w'.cell? ⟨(ad.add (i * 4)).block, (ad.add (i * 4)).off + 1, none⟩ = some (.int .i64 c.f1) ∧ w'.cell? ⟨(ad.add (i * 4)).block, (ad.add (i * 4)).off + 2, none⟩ = some (.float .f64 c.f2) ∧ w'.cell? ⟨(ad.add (i * 4)).block, (ad.add (i * 4)).off + 3, none⟩ = some (.string c.f3) ∧ w'.cell? ⟨w.heap.size + 1, 0, none⟩ = some (.int .i64 m.f0) ∧ w'.cell? ⟨w.heap.size + 1, 1, none⟩ = some (.int .i64 m.f1) ∧ w'.cell? ⟨w.heap.size + 1, 2, none⟩ = some (.float .f64 m.f2) ∧ w'.cell? ⟨w.heap.size + 1, 3, none⟩ = some (.string m.f3) ∧ Aside0 (Below wr.heap.size wr w')) (first | exact keepM (below_drew (Below.refl _ _)) x0 x1 x2 x3 y0 y1 y2 y3 | exact keepM (below_then (below_drew (Below.refl _ _)) (Nat.le_refl _) hb2) x0 x1 x2 x3 y0 y1 y2 y3)
    (first | (go_at_call 29; refine (hC.out _).mono ?_; rintro e w2 ⟨rfl, hb2⟩))
   have hb3 : Below wr.heap.size wr w2 := below_then (below_drew (Below.refl _ _)) (Nat.le_refl _) hb2
   have K1 := Aside0.mk (blk_below hK.out.1 hb3)
   have K2 := Aside0.mk (blk_below hK.out.2 hb3)
   have HB2 := Aside0.mk (below_then hB.out hB.out.size hb3)
   have z0 : w2.frozen? ⟨w.heap.size + 1, 0, none⟩ = false := blk_frozen K2.out 0
   have z1 : w2.frozen? ⟨w.heap.size + 1, 1, none⟩ = false := blk_frozen K2.out 1
   have z2 : w2.frozen? ⟨w.heap.size + 1, 2, none⟩ = false := blk_frozen K2.out 2
   have z3 : w2.frozen? ⟨w.heap.size + 1, 3, none⟩ = false := blk_frozen K2.out 3
   clear hb2 hb3 y0 y1 y2 y3
   replace HI := Aside0.mk HI
   go_wp2_with (fail)
   ·have hb : b > 0 := by assumption
    have HJ := HI.out
    rw [if_pos hb] at HJ
    go_roundg (l.length - (i + 1))
    case measure => have := hi.out.1; omega
    case rel => exact ⟨i + 1, c, by simp, ⟨rfl, by omega, by omega, HJ⟩, ⟨by (repeat rw [Below.heap_setCell _ _ _ _ (by simp)]); exact K1.out, by refine blk_put (cs := #[.int .i64 c.f0, .int .i64 c.f1, .float .f64 c.f2, .string m.f3]) ?_ 3 _ rfl; refine blk_put (cs := #[.int .i64 c.f0, .int .i64 c.f1, .float .f64 m.f2, .string m.f3]) ?_ 2 _ rfl; refine blk_put (cs := #[.int .i64 c.f0, .int .i64 m.f1, .float .f64 m.f2, .string m.f3]) ?_ 1 _ rfl; refine blk_put (cs := #[.int .i64 m.f0, .int .i64 m.f1, .float .f64 m.f2, .string m.f3]) ?_ 0 _ rfl; exact K2.out⟩, ⟨by (repeat refine below_set ?_ (by omega)); exact HB2.out⟩⟩
   ·have hb : ¬ b > 0 := by omega
    have HJ := HI.out
    rw [if_neg hb] at HJ
    go_roundg (l.length - (i + 1))
    case measure => have := hi.out.1; omega
    case rel => exact ⟨i + 1, m, by simp, ⟨rfl, by omega, by omega, HJ⟩, ⟨K1.out, K2.out⟩, ⟨HB2.out⟩⟩
  ·have he : i = l.length := by have := hi.out.2.2.1; omega
   rw [List.drop_eq_nil_of_le (by omega), maxT] at HI
   obtain rfl := Option.some.inj HI
   clear HI
   subst he
   have y0 : wr.cell? ⟨w.heap.size + 1, 0, none⟩ = some (.int .i64 m.f0) := (blk_cell hK.out.2 0).trans rfl
   have y1 : wr.cell? ⟨w.heap.size + 1, 1, none⟩ = some (.int .i64 m.f1) := (blk_cell hK.out.2 1).trans rfl
   have y2 : wr.cell? ⟨w.heap.size + 1, 2, none⟩ = some (.float .f64 m.f2) := (blk_cell hK.out.2 2).trans rfl
   have y3 : wr.cell? ⟨w.heap.size + 1, 3, none⟩ = some (.string m.f3) := (blk_cell hK.out.2 3).trans rfl
   have u0 : wr.cell? ⟨w.heap.size, 0, none⟩ = some (.int .i64 0) := (blk_cell hK.out.1 0).trans rfl
   have u1 : wr.cell? ⟨w.heap.size, 1, none⟩ = some (.int .i64 0) := (blk_cell hK.out.1 1).trans rfl
   have u2 : wr.cell? ⟨w.heap.size, 2, none⟩ = some (.float .f64 0) := (blk_cell hK.out.1 2).trans rfl
   have u3 : wr.cell? ⟨w.heap.size, 3, none⟩ = some (.string ⟨#[]⟩) := (blk_cell hK.out.1 3).trans rfl
   have z0 : wr.frozen? ⟨w.heap.size, 0, none⟩ = false := blk_frozen hK.out.1 0
   have z1 : wr.frozen? ⟨w.heap.size, 1, none⟩ = false := blk_frozen hK.out.1 1
   have z2 : wr.frozen? ⟨w.heap.size, 2, none⟩ = false := blk_frozen hK.out.1 2
   have z3 : wr.frozen? ⟨w.heap.size, 3, none⟩ = false := blk_frozen hK.out.1 3
   go_wp2_with (fail)
   refine bodyPost_ret (results_cell_row rfl _ _ w.heap.size 28 #[.int .i64 m.f0, .int .i64 m.f1, .float .f64 m.f2, .string m.f3] (0, 0) _ rfl (by refine blk_put (cs := #[.int .i64 m.f0, .int .i64 m.f1, .float .f64 m.f2, .string ⟨#[]⟩]) ?_ 3 _ rfl; refine blk_put (cs := #[.int .i64 m.f0, .int .i64 m.f1, .float .f64 0, .string ⟨#[]⟩]) ?_ 2 _ rfl; refine blk_put (cs := #[.int .i64 m.f0, .int .i64 0, .float .f64 0, .string ⟨#[]⟩]) ?_ 1 _ rfl; refine blk_put (cs := #[.int .i64 0, .int .i64 0, .float .f64 0, .string ⟨#[]⟩]) ?_ 0 _ rfl; exact hK.out.1) Try.underlying28 rfl (by kernel_rfl)) rfl ?_
   exact ⟨rfl, by (repeat refine below_set ?_ (by omega)); exact hB.out⟩
end Go.Proofs.Ytkedejphebfneaa.Pa
