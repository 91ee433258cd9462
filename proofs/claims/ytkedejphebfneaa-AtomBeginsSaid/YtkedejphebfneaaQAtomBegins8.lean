/- The texts of AtomBegins, merged: part 8. -/
import Derived.Test.YtkedejphebfneaaQAtomBegins4
import Derived.Test.YtkedejphebfneaaQAtomBegins2
import Derived.Test.YtkedejphebfneaaQAtomBegins7
import Derived.RegionTactic
import Derived.ChangeAlike
section
/- slices.MinFunc and MaxFunc over values, by value.Compare: their walks by hand. -/
namespace Go.Proofs.Ytkedejphebfneaa.Pa
open Go.Proofs.Ytkedejphebfneaa.L Go.RowKit Go.Proofs.YtkedejphebfneaaW.PrintWords Go.Proofs.YtkedejphebfneaaW.PrintLast Go.Proofs.YtkedejphebfneaaW.PrintMore
set_option linter.unusedVariables false
set_option linter.unusedSimpArgs false
attribute [local go_sem] run_store_float cmp_feq cmp_fne cmp_flt cmp_fle cmp_fgt cmp_fge un_fneg equalIn_feq run_fop run_fint run_freal cmp_sgt
/-- The first of the least, from the one at hand on. -/
def minT (k : Nat) : S28 → List S28 → Option S28
  | m, [] => some m
  | m, c :: cs => (value_Compare.f k c.f0 c.f1 c.f2 c.f3 m.f0 m.f1 m.f2 m.f3).bind fun r => if r < 0 then minT k c cs else minT k m cs
def minCompare.f (k : Nat) : List S28 → Option S28
  | [] => none
  | c :: cs => minT k c cs
theorem minT_mono (k : Nat) : ∀ (l : List S28) (m : S28), LeO (minT k m l) (minT (k + 1) m l)
  | [], _ => LeO.refl _
  | c :: cs, m => by
    rw [minT, minT]
    exact LeO.bind (value_Compare.mono _ _ _ _ _ _ _ _ _) (fun r => LeO.ite (minT_mono k cs c) (minT_mono k cs m))
theorem minCompare.mono (l : List S28) (k : Nat) : LeO (minCompare.f k l) (minCompare.f (k + 1) l) := by
  cases l with
  | nil => exact LeO.refl _
  | cons c cs => exact minT_mono k cs c
theorem keepM {wr W : World} {a : Addr} {g : Nat} {c m : S28} (hB : Below wr.heap.size wr W) (x0 : wr.cell? a = some (.int .i64 c.f0)) (x1 : wr.cell? ⟨a.block, a.off + 1, none⟩ = some (.int .i64 c.f1)) (x2 : wr.cell? ⟨a.block, a.off + 2, none⟩ = some (.float .f64 c.f2)) (x3 : wr.cell? ⟨a.block, a.off + 3, none⟩ = some (.string c.f3))
    (y0 : wr.cell? ⟨g, 0, none⟩ = some (.int .i64 m.f0)) (y1 : wr.cell? ⟨g, 1, none⟩ = some (.int .i64 m.f1)) (y2 : wr.cell? ⟨g, 2, none⟩ = some (.float .f64 m.f2)) (y3 : wr.cell? ⟨g, 3, none⟩ = some (.string m.f3)) :
    W.cell? a = some (.int .i64 c.f0) ∧ W.cell? ⟨a.block, a.off + 1, none⟩ = some (.int .i64 c.f1) ∧ W.cell? ⟨a.block, a.off + 2, none⟩ = some (.float .f64 c.f2) ∧ W.cell? ⟨a.block, a.off + 3, none⟩ = some (.string c.f3) ∧ W.cell? ⟨g, 0, none⟩ = some (.int .i64 m.f0) ∧ W.cell? ⟨g, 1, none⟩ = some (.int .i64 m.f1) ∧ W.cell? ⟨g, 2, none⟩ = some (.float .f64 m.f2) ∧ W.cell? ⟨g, 3, none⟩ = some (.string m.f3) ∧ Aside0 (Below wr.heap.size wr W) :=
  ⟨pw_cell_below hB x0, pw_cell_below hB x1, pw_cell_below hB x2, pw_cell_below hB x3, pw_cell_below hB y0, pw_cell_below hB y1, pw_cell_below hB y2, pw_cell_below hB y3, ⟨hB⟩⟩
set_option maxHeartbeats 8000000 in
theorem minCompare.calls (k : Nat) (A0 : Option Addr) (c0 : Nat) (l : List S28) (r : S28) (w : World) (hr0 : Kd.C k28 w A0 l.length l) (hc0 : l.length ≤ c0) (h : minCompare.f k l = some r) :
    Calls Try.prog 56 #[.slice A0 l.length c0, .func (.func 29) #[] #[]] w fun e w' => e = .returned (.agg #[.int .i64 r.f0, .int .i64 r.f1, .float .f64 r.f2, .string r.f3]) ∧ Below w.heap.size w w' := by
  have hR0 := Aside0.mk hr0
  have hm := hr0.2.1
  obtain ⟨m0, hm0, h1, h9⟩ : ∃ m0, m0 = rd_T28 l 0 ∧ 1 ≤ l.length ∧ minT k m0 (l.drop 1) = some r := by
    cases l with
    | nil => cases h
    | cons c cs => exact ⟨c, rfl, by simp, h⟩
  obtain ⟨ad, e1, x0, x1, x2, x3⟩ := at_T28 (Kd.C_alloc hr0 (.cells #[.int .i64 0, .int .i64 0, .float .f64 0, .string ⟨#[]⟩] 28)) 0 (by omega) (by omega)
  rw [← hm0] at x0 x1 x2 x3
  have ea : ad.add 0 = ad := rfl
  have d1 : decide ((l.length : Int) < 1) = false := by simp; omega
  have q0 : decide (0 < l.length) = true := by simp; omega
  have q1 : (0 : Int) < (l.length : Int) := by omega
  subst e1
  simp only [Int.toNat_zero, Nat.zero_mul, ea] at x0 x1 x2 x3
  clear ea
  have H0 := Aside0.mk h9
  clear hr0 h h9
  replace hm0 := Aside0.mk hm0
  go_enter Try.func56, Try.ntmps56
  go_wp2_with (fail)
  go_loopg [6] (l.length - 1) (fun kq v6 w' => ∃ (i : Nat) (m : S28), v6 = .int .i64 i ∧ Aside0 (kq = l.length - i ∧ 1 ≤ i ∧ i ≤ l.length ∧ minT k m (l.drop i) = some r) ∧ Aside0 (w'.heap[w.heap.size]? = some (.cells #[.int .i64 0, .int .i64 0, .float .f64 0, .string ⟨#[]⟩] 28 (0, 0)) ∧ w'.heap[w.heap.size + 1]? = some (.cells #[.int .i64 m.f0, .int .i64 m.f1, .float .f64 m.f2, .string m.f3] 28 (0, 0))) ∧ Aside0 (Below w.heap.size w w'))
  case atStart => exact ⟨1, m0, rfl, ⟨rfl, by omega, by omega, H0.out⟩, ⟨blk_alloc (blk_new _ _) _, by simpa using blk_new (w.alloc _) _⟩, ⟨below_alloc (below_alloc (Below.refl _ _) _) _⟩⟩
  case round =>
    obtain ⟨i, m, rfl, hi, hK, hB⟩ := hrel
    clear x0 x1 x2 x3
    have HI := hi.out.2.2.2
    rcases Nat.lt_or_ge i l.length with hlt | hge
    · have hR1 := Kd.C_below hR0.out hB.out
      have p1 : (0 : Int) ≤ i := by omega
      have q1 : (i : Int) < (l.length : Int) := by omega
      obtain ⟨ad', e1, x0, x1, x2, x3⟩ := at_T28 hR1 i p1 q1
      clear hR1
      obtain rfl := Option.some.inj e1
      clear e1
      obtain ⟨c, hc⟩ : ∃ c, c = rd_T28 l i := ⟨_, rfl⟩
      rw [← hc] at x0 x1 x2 x3
      have hdr : l.drop i = c :: l.drop (i + 1) := by rw [List.drop_eq_getElem_cons hlt, hc]; simp [rd_T28, List.getD_eq_getElem?_getD, List.getElem?_eq_getElem hlt]
      replace hc := Aside0.mk hc
      simp only [Int.toNat_natCast] at x0 x1 x2 x3
      rw [hdr, minT] at HI
      obtain ⟨b, hqb, HI⟩ := Option.bind_eq_some_iff.1 HI
      have hw9 : wrap64 ((i : Int) + 1) = ((i + 1 : Nat) : Int) := by rw [wrap64_in (by omega) (by omega)]; omega
      have hC := Aside0.mk (fun W => value_Compare.calls k c.f0 c.f1 c.f2 c.f3 m.f0 m.f1 m.f2 m.f3 b W hqb)
      clear hqb
      replace hdr := Aside0.mk hdr
      have y0 : wr.cell? ⟨w.heap.size + 1, 0, none⟩ = some (.int .i64 m.f0) := (blk_cell hK.out.2 0).trans rfl
      have y1 : wr.cell? ⟨w.heap.size + 1, 1, none⟩ = some (.int .i64 m.f1) := (blk_cell hK.out.2 1).trans rfl
      have y2 : wr.cell? ⟨w.heap.size + 1, 2, none⟩ = some (.float .f64 m.f2) := (blk_cell hK.out.2 2).trans rfl
      have y3 : wr.cell? ⟨w.heap.size + 1, 3, none⟩ = some (.string m.f3) := (blk_cell hK.out.2 3).trans rfl
      go_wp2_with (fail)
      go_region_held3 (fun w' => w'.cell? (ad.add (i * 4)) = some (.int .i64 c.f0) ∧ w'.cell? ⟨(ad.add (i * 4)).block, (ad.add (i * 4)).off + 1, none⟩ = some (.int .i64 c.f1) ∧ w'.cell? ⟨(ad.add (i * 4)).block, (ad.add (i * 4)).off + 2, none⟩ = some (.float .f64 c.f2) ∧ w'.cell? ⟨(ad.add (i * 4)).block, (ad.add (i * 4)).off + 3, none⟩ = some (.string c.f3) ∧ w'.cell? ⟨w.heap.size + 1, 0, none⟩ = some (.int .i64 m.f0) ∧ w'.cell? ⟨w.heap.size + 1, 1, none⟩ = some (.int .i64 m.f1) ∧ w'.cell? ⟨w.heap.size + 1, 2, none⟩ = some (.float .f64 m.f2) ∧ w'.cell? ⟨w.heap.size + 1, 3, none⟩ = some (.string m.f3) ∧ Aside0 (Below wr.heap.size wr w')) (first | exact keepM (below_drew (Below.refl _ _)) x0 x1 x2 x3 y0 y1 y2 y3 | exact keepM (below_then (below_drew (Below.refl _ _)) (Nat.le_refl _) hb2) x0 x1 x2 x3 y0 y1 y2 y3)
        (first | (go_at_call 29; refine (hC.out _).mono ?_; rintro e w2 ⟨rfl, hb2⟩))
      have hb3 : Below wr.heap.size wr w2 := below_then (below_drew (Below.refl _ _)) (Nat.le_refl _) hb2
      have K1 := Aside0.mk (blk_below hK.out.1 hb3)
      have K2 := Aside0.mk (blk_below hK.out.2 hb3)
      have HB2 := Aside0.mk (below_then hB.out hB.out.size hb3)
      have z0 : w2.frozen? ⟨w.heap.size + 1, 0, none⟩ = false := blk_frozen K2.out 0
      have z1 : w2.frozen? ⟨w.heap.size + 1, 1, none⟩ = false := blk_frozen K2.out 1
      have z2 : w2.frozen? ⟨w.heap.size + 1, 2, none⟩ = false := blk_frozen K2.out 2
      have z3 : w2.frozen? ⟨w.heap.size + 1, 3, none⟩ = false := blk_frozen K2.out 3
      clear hb2 hb3 y0 y1 y2 y3
      replace HI := Aside0.mk HI
      go_wp2_with (fail)
      · have hb : b < 0 := by assumption
        have HJ := HI.out
        rw [if_pos hb] at HJ
        go_roundg (l.length - (i + 1))
        case measure => have := hi.out.1; omega
        case rel => exact ⟨i + 1, c, by simp, ⟨rfl, by omega, by omega, HJ⟩, ⟨by (repeat rw [Below.heap_setCell _ _ _ _ (by simp)]); exact K1.out, by refine blk_put (cs := #[.int .i64 c.f0, .int .i64 c.f1, .float .f64 c.f2, .string m.f3]) ?_ 3 _ rfl; refine blk_put (cs := #[.int .i64 c.f0, .int .i64 c.f1, .float .f64 m.f2, .string m.f3]) ?_ 2 _ rfl; refine blk_put (cs := #[.int .i64 c.f0, .int .i64 m.f1, .float .f64 m.f2, .string m.f3]) ?_ 1 _ rfl; refine blk_put (cs := #[.int .i64 m.f0, .int .i64 m.f1, .float .f64 m.f2, .string m.f3]) ?_ 0 _ rfl; exact K2.out⟩, ⟨by (repeat refine below_set ?_ (by omega)); exact HB2.out⟩⟩
      · have hb : ¬ b < 0 := by omega
        have HJ := HI.out
        rw [if_neg hb] at HJ
        go_roundg (l.length - (i + 1))
        case measure => have := hi.out.1; omega
        case rel => exact ⟨i + 1, m, by simp, ⟨rfl, by omega, by omega, HJ⟩, ⟨K1.out, K2.out⟩, ⟨HB2.out⟩⟩
    · have he : i = l.length := by have := hi.out.2.2.1; omega
      rw [List.drop_eq_nil_of_le (by omega), minT] at HI
      obtain rfl := Option.some.inj HI
      clear HI
      subst he
      have y0 : wr.cell? ⟨w.heap.size + 1, 0, none⟩ = some (.int .i64 m.f0) := (blk_cell hK.out.2 0).trans rfl
      have y1 : wr.cell? ⟨w.heap.size + 1, 1, none⟩ = some (.int .i64 m.f1) := (blk_cell hK.out.2 1).trans rfl
      have y2 : wr.cell? ⟨w.heap.size + 1, 2, none⟩ = some (.float .f64 m.f2) := (blk_cell hK.out.2 2).trans rfl
      have y3 : wr.cell? ⟨w.heap.size + 1, 3, none⟩ = some (.string m.f3) := (blk_cell hK.out.2 3).trans rfl
      have u0 : wr.cell? ⟨w.heap.size, 0, none⟩ = some (.int .i64 0) := (blk_cell hK.out.1 0).trans rfl
      have u1 : wr.cell? ⟨w.heap.size, 1, none⟩ = some (.int .i64 0) := (blk_cell hK.out.1 1).trans rfl
      have u2 : wr.cell? ⟨w.heap.size, 2, none⟩ = some (.float .f64 0) := (blk_cell hK.out.1 2).trans rfl
      have u3 : wr.cell? ⟨w.heap.size, 3, none⟩ = some (.string ⟨#[]⟩) := (blk_cell hK.out.1 3).trans rfl
      have z0 : wr.frozen? ⟨w.heap.size, 0, none⟩ = false := blk_frozen hK.out.1 0
      have z1 : wr.frozen? ⟨w.heap.size, 1, none⟩ = false := blk_frozen hK.out.1 1
      have z2 : wr.frozen? ⟨w.heap.size, 2, none⟩ = false := blk_frozen hK.out.1 2
      have z3 : wr.frozen? ⟨w.heap.size, 3, none⟩ = false := blk_frozen hK.out.1 3
      go_wp2_with (fail)
      refine bodyPost_ret (results_cell_row rfl _ _ w.heap.size 28 #[.int .i64 m.f0, .int .i64 m.f1, .float .f64 m.f2, .string m.f3] (0, 0) _ rfl (by refine blk_put (cs := #[.int .i64 m.f0, .int .i64 m.f1, .float .f64 m.f2, .string ⟨#[]⟩]) ?_ 3 _ rfl; refine blk_put (cs := #[.int .i64 m.f0, .int .i64 m.f1, .float .f64 0, .string ⟨#[]⟩]) ?_ 2 _ rfl; refine blk_put (cs := #[.int .i64 m.f0, .int .i64 0, .float .f64 0, .string ⟨#[]⟩]) ?_ 1 _ rfl; refine blk_put (cs := #[.int .i64 0, .int .i64 0, .float .f64 0, .string ⟨#[]⟩]) ?_ 0 _ rfl; exact hK.out.1) Try.underlying28 rfl (by kernel_rfl)) rfl ?_
      exact ⟨rfl, by (repeat refine below_set ?_ (by omega)); exact hB.out⟩
/-- The first of the greatest, from the one at hand on. -/
def maxT (k : Nat) : S28 → List S28 → Option S28
  | m, [] => some m
  | m, c :: cs => (value_Compare.f k c.f0 c.f1 c.f2 c.f3 m.f0 m.f1 m.f2 m.f3).bind fun r => if r > 0 then maxT k c cs else maxT k m cs
def maxCompare.f (k : Nat) : List S28 → Option S28
  | [] => none
  | c :: cs => maxT k c cs
theorem maxT_mono (k : Nat) : ∀ (l : List S28) (m : S28), LeO (maxT k m l) (maxT (k + 1) m l)
  | [], _ => LeO.refl _
  | c :: cs, m => by
    rw [maxT, maxT]
    exact LeO.bind (value_Compare.mono _ _ _ _ _ _ _ _ _) (fun r => LeO.ite (maxT_mono k cs c) (maxT_mono k cs m))
theorem maxCompare.mono (l : List S28) (k : Nat) : LeO (maxCompare.f k l) (maxCompare.f (k + 1) l) := by
  cases l with
  | nil => exact LeO.refl _
  | cons c cs => exact maxT_mono k cs c
set_option maxHeartbeats 8000000 in
theorem maxCompare.calls (k : Nat) (A0 : Option Addr) (c0 : Nat) (l : List S28) (r : S28) (w : World) (hr0 : Kd.C k28 w A0 l.length l) (hc0 : l.length ≤ c0) (h : maxCompare.f k l = some r) :
    Calls Try.prog 57 #[.slice A0 l.length c0, .func (.func 29) #[] #[]] w fun e w' => e = .returned (.agg #[.int .i64 r.f0, .int .i64 r.f1, .float .f64 r.f2, .string r.f3]) ∧ Below w.heap.size w w' := by
  have hR0 := Aside0.mk hr0
  have hm := hr0.2.1
  obtain ⟨m0, hm0, h1, h9⟩ : ∃ m0, m0 = rd_T28 l 0 ∧ 1 ≤ l.length ∧ maxT k m0 (l.drop 1) = some r := by
    cases l with
    | nil => cases h
    | cons c cs => exact ⟨c, rfl, by simp, h⟩
  obtain ⟨ad, e1, x0, x1, x2, x3⟩ := at_T28 (Kd.C_alloc hr0 (.cells #[.int .i64 0, .int .i64 0, .float .f64 0, .string ⟨#[]⟩] 28)) 0 (by omega) (by omega)
  rw [← hm0] at x0 x1 x2 x3
  have ea : ad.add 0 = ad := rfl
  have d1 : decide ((l.length : Int) < 1) = false := by simp; omega
  have q0 : decide (0 < l.length) = true := by simp; omega
  have q1 : (0 : Int) < (l.length : Int) := by omega
  subst e1
  simp only [Int.toNat_zero, Nat.zero_mul, ea] at x0 x1 x2 x3
  clear ea
  have H0 := Aside0.mk h9
  clear hr0 h h9
  replace hm0 := Aside0.mk hm0
  go_enter Try.func57, Try.ntmps57
  go_wp2_with (fail)
  go_loopg [6] (l.length - 1) (fun kq v6 w' => ∃ (i : Nat) (m : S28), v6 = .int .i64 i ∧ Aside0 (kq = l.length - i ∧ 1 ≤ i ∧ i ≤ l.length ∧ maxT k m (l.drop i) = some r) ∧ Aside0 (w'.heap[w.heap.size]? = some (.cells #[.int .i64 0, .int .i64 0, .float .f64 0, .string ⟨#[]⟩] 28 (0, 0)) ∧ w'.heap[w.heap.size + 1]? = some (.cells #[.int .i64 m.f0, .int .i64 m.f1, .float .f64 m.f2, .string m.f3] 28 (0, 0))) ∧ Aside0 (Below w.heap.size w w'))
  case atStart => exact ⟨1, m0, rfl, ⟨rfl, by omega, by omega, H0.out⟩, ⟨blk_alloc (blk_new _ _) _, by simpa using blk_new (w.alloc _) _⟩, ⟨below_alloc (below_alloc (Below.refl _ _) _) _⟩⟩
  case round =>
    obtain ⟨i, m, rfl, hi, hK, hB⟩ := hrel
    clear x0 x1 x2 x3
    have HI := hi.out.2.2.2
    rcases Nat.lt_or_ge i l.length with hlt | hge
    · have hR1 := Kd.C_below hR0.out hB.out
      have p1 : (0 : Int) ≤ i := by omega
      have q1 : (i : Int) < (l.length : Int) := by omega
      obtain ⟨ad', e1, x0, x1, x2, x3⟩ := at_T28 hR1 i p1 q1
      clear hR1
      obtain rfl := Option.some.inj e1
      clear e1
      obtain ⟨c, hc⟩ : ∃ c, c = rd_T28 l i := ⟨_, rfl⟩
      rw [← hc] at x0 x1 x2 x3
      have hdr : l.drop i = c :: l.drop (i + 1) := by rw [List.drop_eq_getElem_cons hlt, hc]; simp [rd_T28, List.getD_eq_getElem?_getD, List.getElem?_eq_getElem hlt]
      replace hc := Aside0.mk hc
      simp only [Int.toNat_natCast] at x0 x1 x2 x3
      rw [hdr, maxT] at HI
      obtain ⟨b, hqb, HI⟩ := Option.bind_eq_some_iff.1 HI
      have hw9 : wrap64 ((i : Int) + 1) = ((i + 1 : Nat) : Int) := by rw [wrap64_in (by omega) (by omega)]; omega
      have hC := Aside0.mk (fun W => value_Compare.calls k c.f0 c.f1 c.f2 c.f3 m.f0 m.f1 m.f2 m.f3 b W hqb)
      clear hqb
      replace hdr := Aside0.mk hdr
      have y0 : wr.cell? ⟨w.heap.size + 1, 0, none⟩ = some (.int .i64 m.f0) := (blk_cell hK.out.2 0).trans rfl
      have y1 : wr.cell? ⟨w.heap.size + 1, 1, none⟩ = some (.int .i64 m.f1) := (blk_cell hK.out.2 1).trans rfl
      have y2 : wr.cell? ⟨w.heap.size + 1, 2, none⟩ = some (.float .f64 m.f2) := (blk_cell hK.out.2 2).trans rfl
      have y3 : wr.cell? ⟨w.heap.size + 1, 3, none⟩ = some (.string m.f3) := (blk_cell hK.out.2 3).trans rfl
      go_wp2_with (fail)
      go_region_held3 (fun w' => w'.cell? (ad.add (i * 4)) = some (.int .i64 c.f0) ∧ w'.cell? ⟨(ad.add (i * 4)).block, (ad.add (i * 4)).off + 1, none⟩ = some (.int .i64 c.f1) ∧ w'.cell? ⟨(ad.add (i * 4)).block, (ad.add (i * 4)).off + 2, none⟩ = some (.float .f64 c.f2) ∧ w'.cell? ⟨(ad.add (i * 4)).block, (ad.add (i * 4)).off + 3, none⟩ = some (.string c.f3) ∧ w'.cell? ⟨w.heap.size + 1, 0, none⟩ = some (.int .i64 m.f0) ∧ w'.cell? ⟨w.heap.size + 1, 1, none⟩ = some (.int .i64 m.f1) ∧ w'.cell? ⟨w.heap.size + 1, 2, none⟩ = some (.float .f64 m.f2) ∧ w'.cell? ⟨w.heap.size + 1, 3, none⟩ = some (.string m.f3) ∧ Aside0 (Below wr.heap.size wr w')) (first | exact keepM (below_drew (Below.refl _ _)) x0 x1 x2 x3 y0 y1 y2 y3 | exact keepM (below_then (below_drew (Below.refl _ _)) (Nat.le_refl _) hb2) x0 x1 x2 x3 y0 y1 y2 y3)
        (first | (go_at_call 29; refine (hC.out _).mono ?_; rintro e w2 ⟨rfl, hb2⟩))
      have hb3 : Below wr.heap.size wr w2 := below_then (below_drew (Below.refl _ _)) (Nat.le_refl _) hb2
      have K1 := Aside0.mk (blk_below hK.out.1 hb3)
      have K2 := Aside0.mk (blk_below hK.out.2 hb3)
      have HB2 := Aside0.mk (below_then hB.out hB.out.size hb3)
      have z0 : w2.frozen? ⟨w.heap.size + 1, 0, none⟩ = false := blk_frozen K2.out 0
      have z1 : w2.frozen? ⟨w.heap.size + 1, 1, none⟩ = false := blk_frozen K2.out 1
      have z2 : w2.frozen? ⟨w.heap.size + 1, 2, none⟩ = false := blk_frozen K2.out 2
      have z3 : w2.frozen? ⟨w.heap.size + 1, 3, none⟩ = false := blk_frozen K2.out 3
      clear hb2 hb3 y0 y1 y2 y3
      replace HI := Aside0.mk HI
      go_wp2_with (fail)
      · have hb : b > 0 := by assumption
        have HJ := HI.out
        rw [if_pos hb] at HJ
        go_roundg (l.length - (i + 1))
        case measure => have := hi.out.1; omega
        case rel => exact ⟨i + 1, c, by simp, ⟨rfl, by omega, by omega, HJ⟩, ⟨by (repeat rw [Below.heap_setCell _ _ _ _ (by simp)]); exact K1.out, by refine blk_put (cs := #[.int .i64 c.f0, .int .i64 c.f1, .float .f64 c.f2, .string m.f3]) ?_ 3 _ rfl; refine blk_put (cs := #[.int .i64 c.f0, .int .i64 c.f1, .float .f64 m.f2, .string m.f3]) ?_ 2 _ rfl; refine blk_put (cs := #[.int .i64 c.f0, .int .i64 m.f1, .float .f64 m.f2, .string m.f3]) ?_ 1 _ rfl; refine blk_put (cs := #[.int .i64 m.f0, .int .i64 m.f1, .float .f64 m.f2, .string m.f3]) ?_ 0 _ rfl; exact K2.out⟩, ⟨by (repeat refine below_set ?_ (by omega)); exact HB2.out⟩⟩
      · have hb : ¬ b > 0 := by omega
        have HJ := HI.out
        rw [if_neg hb] at HJ
        go_roundg (l.length - (i + 1))
        case measure => have := hi.out.1; omega
        case rel => exact ⟨i + 1, m, by simp, ⟨rfl, by omega, by omega, HJ⟩, ⟨K1.out, K2.out⟩, ⟨HB2.out⟩⟩
    · have he : i = l.length := by have := hi.out.2.2.1; omega
      rw [List.drop_eq_nil_of_le (by omega), maxT] at HI
      obtain rfl := Option.some.inj HI
      clear HI
      subst he
      have y0 : wr.cell? ⟨w.heap.size + 1, 0, none⟩ = some (.int .i64 m.f0) := (blk_cell hK.out.2 0).trans rfl
      have y1 : wr.cell? ⟨w.heap.size + 1, 1, none⟩ = some (.int .i64 m.f1) := (blk_cell hK.out.2 1).trans rfl
      have y2 : wr.cell? ⟨w.heap.size + 1, 2, none⟩ = some (.float .f64 m.f2) := (blk_cell hK.out.2 2).trans rfl
      have y3 : wr.cell? ⟨w.heap.size + 1, 3, none⟩ = some (.string m.f3) := (blk_cell hK.out.2 3).trans rfl
      have u0 : wr.cell? ⟨w.heap.size, 0, none⟩ = some (.int .i64 0) := (blk_cell hK.out.1 0).trans rfl
      have u1 : wr.cell? ⟨w.heap.size, 1, none⟩ = some (.int .i64 0) := (blk_cell hK.out.1 1).trans rfl
      have u2 : wr.cell? ⟨w.heap.size, 2, none⟩ = some (.float .f64 0) := (blk_cell hK.out.1 2).trans rfl
      have u3 : wr.cell? ⟨w.heap.size, 3, none⟩ = some (.string ⟨#[]⟩) := (blk_cell hK.out.1 3).trans rfl
      have z0 : wr.frozen? ⟨w.heap.size, 0, none⟩ = false := blk_frozen hK.out.1 0
      have z1 : wr.frozen? ⟨w.heap.size, 1, none⟩ = false := blk_frozen hK.out.1 1
      have z2 : wr.frozen? ⟨w.heap.size, 2, none⟩ = false := blk_frozen hK.out.1 2
      have z3 : wr.frozen? ⟨w.heap.size, 3, none⟩ = false := blk_frozen hK.out.1 3
      go_wp2_with (fail)
      refine bodyPost_ret (results_cell_row rfl _ _ w.heap.size 28 #[.int .i64 m.f0, .int .i64 m.f1, .float .f64 m.f2, .string m.f3] (0, 0) _ rfl (by refine blk_put (cs := #[.int .i64 m.f0, .int .i64 m.f1, .float .f64 m.f2, .string ⟨#[]⟩]) ?_ 3 _ rfl; refine blk_put (cs := #[.int .i64 m.f0, .int .i64 m.f1, .float .f64 0, .string ⟨#[]⟩]) ?_ 2 _ rfl; refine blk_put (cs := #[.int .i64 m.f0, .int .i64 0, .float .f64 0, .string ⟨#[]⟩]) ?_ 1 _ rfl; refine blk_put (cs := #[.int .i64 0, .int .i64 0, .float .f64 0, .string ⟨#[]⟩]) ?_ 0 _ rfl; exact hK.out.1) Try.underlying28 rfl (by kernel_rfl)) rfl ?_
      exact ⟨rfl, by (repeat refine below_set ?_ (by omega)); exact hB.out⟩
end Go.Proofs.Ytkedejphebfneaa.Pa
end
section
-- Written by xprint.py, a program of this session, over the kit's print. Not trusted: Lean checks it.
namespace Go.Proofs.Ytkedejphebfneaa.Pa
open Go.RowKit Go.Proofs.YtkedejphebfneaaW.PrintWords Go.Proofs.YtkedejphebfneaaW.PrintLast Go.Proofs.YtkedejphebfneaaW.PrintMore
attribute [local go_sem] max2_int min2_int max_two min_two max_three min_three max_four min_four   -- for this text's walks alone
attribute [local go_sem] run_store_float cmp_feq cmp_fne cmp_flt cmp_fle cmp_fgt cmp_fge un_fneg equalIn_feq run_fop run_fint run_freal cmp_sgt ext_bits ext_frombits ext_cmpb
set_option linter.unusedVariables false
set_option linter.unusedSimpArgs false

/-! ### atom_right: function 55 -/
def atom_right.l0 : Nat → List Int → Int → Int → Int → ByteArray → Int → Int → Int → Nat → ByteArray → List (S28) → List (S32) → Option (Bool)
  | 0, _, _, _, _, _, _, _, _, _, _, _, _ => none
  | k + 1, x5, x6, x7, x169000, x169001, x169002, x169003, x169004, x169005, x169006, x169007, x169008 => if x7 < x6 then (if 0 ≤ x7 then (if x7 < (x5.length : Int) then ((atom_Check.f k (([(⟨x169001, rd x5 x7, false⟩ : S23)] : List (S23))) x169000 x169001 x169002 x169003 x169004 x169005 x169006 x169007 x169008).bind fun t176 => (if t176 = 0 then (some true) else (atom_right.l0 k x5 x6 (wrap64 (x7 + 1)) x169000 x169001 x169002 x169003 x169004 x169005 x169006 x169007 x169008))) else (none)) else (none)) else (some false)
def atom_right.f (k : Nat) (a0_0 : Int) (a0_1 : ByteArray) (a0_2 : Int) (a0_3 : Int) (a0_4 : Int) (a0_5 : Nat) (a0_6 : ByteArray) (l0_7 : List (S28)) (l0_8 : List (S32)) : Option (Bool) := (some (([1, 2] : List Int) : List Int)).bind fun y169 => (atom_right.l0 k y169 (y169.length : Int) 0 a0_0 a0_1 a0_2 a0_3 a0_4 a0_5 a0_6 l0_7 l0_8)
theorem atom_right.mono_l : ∀ k, (∀ y0 y1 y2 y3 y4 y5 y6 y7 y8 y9 y10 y11, LeO (atom_right.l0 k y0 y1 y2 y3 y4 y5 y6 y7 y8 y9 y10 y11) (atom_right.l0 (k + 1) y0 y1 y2 y3 y4 y5 y6 y7 y8 y9 y10 y11))
  | 0 => fun _ _ _ _ _ _ _ _ _ _ _ _ r h => by simp [atom_right.l0] at h
  | k + 1 => by
    have ih0 := atom_right.mono_l k
    · intro y0 y1 y2 y3 y4 y5 y6 y7 y8 y9 y10 y11
      unfold atom_right.l0
      repeat' first
      | (with_reducible exact ih0 _ _ _ _ _ _ _ _ _ _ _ _)
      | (with_reducible exact atom_Check.mono _ _ _ _ _ _ _ _ _ _ _)
      | (with_reducible exact LeO.refl _)
      | (with_reducible exact LeO.none _)
      | (with_reducible refine LeO.ite ?_ ?_)
      | (with_reducible refine LeO.bind ?_ (fun _ => ?_))
      | exact ih0 _ _ _ _ _ _ _ _ _ _ _ _
      | exact atom_Check.mono _ _ _ _ _ _ _ _ _ _ _
      | exact LeO.none _
      | refine LeO.ite ?_ ?_
      | refine LeO.bind ?_ (fun _ => ?_)
theorem atom_right.mono : ∀ a0 a1 a2 a3 a4 a5 a6 a7 a8 k, LeO (atom_right.f k a0 a1 a2 a3 a4 a5 a6 a7 a8) (atom_right.f (k + 1) a0 a1 a2 a3 a4 a5 a6 a7 a8) := by
  intro a0 a1 a2 a3 a4 a5 a6 a7 a8 k
  have ih0 := atom_right.mono_l k
  unfold atom_right.f
  repeat' first
      | (with_reducible exact ih0 _ _ _ _ _ _ _ _ _ _ _ _)
      | (with_reducible exact atom_Check.mono _ _ _ _ _ _ _ _ _ _ _)
      | (with_reducible exact LeO.refl _)
      | (with_reducible exact LeO.none _)
      | (with_reducible refine LeO.ite ?_ ?_)
      | (with_reducible refine LeO.bind ?_ (fun _ => ?_))
      | exact ih0 _ _ _ _ _ _ _ _ _ _ _ _
      | exact atom_Check.mono _ _ _ _ _ _ _ _ _ _ _
      | exact LeO.none _
      | refine LeO.ite ?_ ?_
      | refine LeO.bind ?_ (fun _ => ?_)
set_option maxHeartbeats 8000000 in
set_option maxRecDepth 100000 in
theorem atom_right.calls (k : Nat) (a0_0 : Int) (a0_1 : ByteArray) (a0_2 : Int) (a0_3 : Int) (a0_4 : Int) (a0_5 : Nat) (a0_6 : ByteArray) (A0_7 : Option Addr) (c0_7 : Nat) (l0_7 : List (S28)) (A0_8 : Option Addr) (c0_8 : Nat) (l0_8 : List (S32)) (r : Bool) (w : World) (hr0_7 : Kd.C k28 w A0_7 l0_7.length l0_7) (hc0_7 : l0_7.length ≤ c0_7) (hr0_8 : Kd.C k32 w A0_8 l0_8.length l0_8) (hc0_8 : l0_8.length ≤ c0_8) (h : atom_right.f k a0_0 a0_1 a0_2 a0_3 a0_4 a0_5 a0_6 l0_7 l0_8 = some r) :
    Calls Try.prog 55 #[.agg #[.int .i64 a0_0, .string a0_1, .int .i64 a0_2, .int .i64 a0_3, .int .i64 a0_4, .float .f64 a0_5, .string a0_6, .slice A0_7 l0_7.length c0_7, .slice A0_8 l0_8.length c0_8]] w fun e w' => e = .returned (.bool r) ∧ Below w.heap.size w w' := by
  have hu32 := Try.underlying32
  have hu23 := Try.underlying23
  have HR0_7 := Aside0.mk hr0_7
  have HC0_7 := Aside0.mk hc0_7
  clear hr0_7 hc0_7
  have HR0_8 := Aside0.mk hr0_8
  have HC0_8 := Aside0.mk hc0_8
  clear hr0_8 hc0_8
  have HB := Aside0.mk (Below.refl w.heap.size w)
  have H : ((some (([1, 2] : List Int) : List Int)).bind fun y169 => (atom_right.l0 k y169 (y169.length : Int) 0 a0_0 a0_1 a0_2 a0_3 a0_4 a0_5 a0_6 l0_7 l0_8)) = some r := h
  clear h
  obtain ⟨y169, hy169⟩ : ∃ y_ : List Int, y_ = (([1, 2] : List Int)) := ⟨_, rfl⟩
  replace H : (atom_right.l0 k y169 (y169.length : Int) 0 a0_0 a0_1 a0_2 a0_3 a0_4 a0_5 a0_6 l0_7 l0_8) = some r := by first | (rw [hy169]; with_reducible exact H) | (have H2_ := (Option.bind_some _ _).symm.trans H; rw [hy169]; with_reducible exact H2_) | (have H2_ := (Option.bind_some _ _).symm.trans H; with_reducible exact H2_) | with_reducible exact H | (rw [hy169]; exact H) | exact H
  have Ny169 := Aside0.mk hy169
  clear hy169
  have H' := Aside0.mk H
  clear H
  go_enter Try.func55, Try.ntmps55
  go_wp2_with (first | ((with_reducible refine gate_dst (N := 1) rfl ?_); refine box_event ?hg (N := 1) ?hd (cs := #[.int .i64 a0_0, .string a0_1, .int .i64 a0_2, .int .i64 a0_3, .int .i64 a0_4, .float .f64 a0_5, .string a0_6, .slice A0_7 l0_7.length c0_7, .slice A0_8 l0_8.length c0_8]) (t := 32) ?hr ?_; (case hd => rfl); (case hg => rfl); (case hr => first | (go_simp; done) | (go_simp; rfl)); intro gb168 hg w2 hbox hb; have n0_ := Aside0.mk (below_step (by repeat (first | (with_reducible first | exact HB.out | apply below_alloc | apply pw_below_drewN | apply below_drew1) | exact HB.out)) hb); have n1_ := Aside0.mk (hbox); have n2_ := Aside0.mk ((by rw [hg]; exact (below_size (by repeat (first | (with_reducible first | exact HB.out | apply below_alloc | apply pw_below_drewN | apply below_drew1) | exact HB.out))) : w.heap.size ≤ gb168)); have n3_ := Aside0.mk ((by rw [hg]; exact (below_size (by repeat (first | (with_reducible first | exact HB.out | apply below_alloc | apply pw_below_drewN | apply below_drew1) | exact HB.out))) : w.heap.size ≤ gb168)); clear HB; have HB := n0_; have BK168 := n1_; have GW168 := n2_; have GE168 := n3_; clear n0_ n1_ n2_ n3_; clear hb hbox hg) | ((with_reducible refine gate_dst (N := 5) rfl ?_); refine Kd.R_lit (Kd.int .i64) _ 3 ?hg (N := 5) ?hd (xs := ([1, 2] : List Int)) (inner := [.int .i64 1, .int .i64 2]) (ok := fun _ => True) (okp := fun _ => True) ?hr ?hp (fun _ hk => hk) trivial (Below.refl _ _) (Nat.le_refl _) (by simp) ?_; (case hd => rfl); (case hg => rfl); (case hr => first | (go_simp; done) | (go_simp; rfl)); (case hp => exact (Reps.one (show Kd.M (Kd.int .i64) _ _ _ 1 [.int .i64 1] from rfl) (Reps.one (show Kd.M (Kd.int .i64) _ _ _ 2 [.int .i64 2] from rfl) (Reps.none _ _)))); intro v170 w3 ho4 hb hg_ hnew_; clear hg_ hnew_; (first | rw [← Ny169.out] at ho4 | (simp only [Int.reduceToNat] at ho4; rw [← Ny169.out] at ho4)); have n0_ := Aside0.mk (Kd.R_lower ho4 (below_size (by repeat (first | (with_reducible first | exact HB.out | apply below_alloc | apply pw_below_drewN | apply below_drew1 | refine below_set ?_ GE168.out) | exact HB.out)))); have n1_ := blkS BK168 hb; have n2_ := Aside0.mk (below_step (by repeat (first | (with_reducible first | exact HB.out | apply below_alloc | apply pw_below_drewN | apply below_drew1 | refine below_set ?_ GE168.out) | exact HB.out)) hb); clear BK168; clear HB; have HO171 := n0_; have BK168 := n1_; have HB := n2_; clear n0_ n1_ n2_; clear hb ho4; obtain ⟨Ao5, co5, eo5⟩ := Kd.R_slice HO171.out; subst eo5))
  go_loopg [7] k (fun kq v7 w' => ∃ (x7_1 : Int), v7 = .int .i64 x7_1 ∧ Aside0 (atom_right.l0 kq y169 (y169.length : Int) x7_1 a0_0 a0_1 a0_2 a0_3 a0_4 a0_5 a0_6 l0_7 l0_8 = some r) ∧ Aside0 (kq ≤ k) ∧ Aside0 (Kd.R (Kd.int .i64) 3 w' w.heap.size (fun _ => True) (.slice Ao5 y169.length co5) y169) ∧ Aside0 (w'.heap[gb168]? = some (.cells #[.int .i64 a0_0, .string a0_1, .int .i64 a0_2, .int .i64 a0_3, .int .i64 a0_4, .float .f64 a0_5, .string a0_6, (.slice A0_7 l0_7.length c0_7), (.slice A0_8 l0_8.length c0_8)] 32 (0, 0))) ∧ Aside0 (Below w.heap.size w w'))
  case atStart => exact ⟨(0), (by first | rfl | (simp; done) | (simp [*]; done)), H', ⟨Nat.le_refl _⟩, ⟨by (with_reducible repeat (first | apply Kd.R_alloc | apply Kd.R_drewN | apply Kd.R_drew)); exact HO171.out⟩, ⟨by (with_reducible repeat (first | refine blk_drewN ?_ _ | refine blk_drew ?_ | refine blk_alloc ?_ _)); exact BK168.out⟩, ⟨by repeat (first | (with_reducible first | exact HB.out | apply below_alloc | apply pw_below_drewN | apply below_drew1 | refine below_set ?_ GE168.out) | exact HB.out)⟩⟩
  case round =>
    clear H'
    try clear p2
    try clear c5
    obtain ⟨x7_1, rfl, HA, HK1, HO_5, BK168, HB⟩ := hrel
    cases gk with
    | zero => exact absurd HA.out (by simp [atom_right.l0])
    | succ k1 =>
      have H := HA.out
      clear HA
      simp only [atom_right.l0] at H
      by_cases c6 : x7_1 < (y169.length : Int)
      · rw [if_pos c6] at H
        have c6b0 : decide (x7_1 < (y169.length : Int)) = true := decide_eq_true c6
        clear c6
        by_cases c7 : 0 ≤ x7_1
        · rw [if_pos c7] at H
          have c7b0 : decide (0 ≤ x7_1) = true := decide_eq_true c7
          clear c7
          by_cases c8 : x7_1 < (y169.length : Int)
          · rw [if_pos c8] at H
            have c8b0 : decide (x7_1 < (y169.length : Int)) = true := decide_eq_true c8
            clear c8
            obtain ⟨y173, hy173⟩ : ∃ y_ : List (S23), y_ = (([(⟨a0_1, rd y169 x7_1, false⟩ : S23)] : List (S23))) := ⟨_, rfl⟩
            replace H : ((atom_Check.f k1 y173 a0_0 a0_1 a0_2 a0_3 a0_4 a0_5 a0_6 l0_7 l0_8).bind fun t176 => (if t176 = 0 then (some true) else (atom_right.l0 k1 y169 (y169.length : Int) (wrap64 (x7_1 + 1)) a0_0 a0_1 a0_2 a0_3 a0_4 a0_5 a0_6 l0_7 l0_8))) = some r := by first | (rw [hy173]; with_reducible exact H) | (have H2_ := (Option.bind_some _ _).symm.trans H; rw [hy173]; with_reducible exact H2_) | (have H2_ := (Option.bind_some _ _).symm.trans H; with_reducible exact H2_) | with_reducible exact H | (rw [hy173]; exact H) | exact H
            have Ny173 := Aside0.mk hy173
            clear hy173
            replace H := Option.bind_eq_some_iff.mp H
            obtain ⟨t176, A90, H⟩ := H
            replace H : (if t176 = 0 then (some true) else (atom_right.l0 k1 y169 (y169.length : Int) (wrap64 (x7_1 + 1)) a0_0 a0_1 a0_2 a0_3 a0_4 a0_5 a0_6 l0_7 l0_8)) = some r := H
            have A9 := Aside0.mk A90
            clear A90
            by_cases c10 : t176 = 0
            · rw [if_pos c10] at H
              have c10b0 : (t176 == 0) = true := beq_iff_eq.mpr c10
              have c10b1 : (t176 != 0) = false := bne_eq_false_iff_eq.mpr c10
              clear c10
              obtain rfl := Option.some.inj H
              have p172 : 0 ≤ (x7_1 : Int) := of_decide_eq_true (by first | (with_reducible assumption) | assumption)
              have q172 : x7_1 < (y169.length : Int) := of_decide_eq_true (by first | (with_reducible assumption) | assumption)
              obtain ⟨ad172, e172, hx172_0⟩ := Kd.at_int (Kd.R_reads' HO_5.out).2.2 x7_1 p172 q172
              cases e172
              replace p172 := eq_true p172
              replace q172 := eq_true q172
              obtain ⟨hcz11_0, hcz11_1, hcz11_2, hcz11_3, hcz11_4, hcz11_5, hcz11_6, hcz11_7, hcz11_8⟩ := cells_9 BK168.out
              obtain ⟨hfz11_0, hfz11_1, hfz11_2, hfz11_3, hfz11_4, hfz11_5, hfz11_6, hfz11_7, hfz11_8⟩ := froz_9 BK168.out
              go_wp2_with (first | ((with_reducible refine gate_dst (N := 15) rfl ?_); refine Kd.R_lit k23 _ 23 ?hg (N := 15) ?hd (xs := ([(⟨a0_1, rd y169 x7_1, false⟩ : S23)] : List (S23))) (inner := [.string a0_1, .int .i64 (rd y169 x7_1), .bool false]) (ok := fun _ => True) (okp := fun _ => True) ?hr ?hp (fun _ hk => hk) trivial (Below.refl _ _) (Nat.le_refl _) (by simp) ?_; (case hd => rfl); (case hg => rfl); (case hr => first | (go_simp; done) | (go_simp; rfl)); (case hp => exact (Reps.c3 (show Kd.M k23 _ _ _ (⟨a0_1, rd y169 x7_1, false⟩ : S23) [.string a0_1, .int .i64 (rd y169 x7_1), .bool false] from (k23_mkM _ _ _ (⟨a0_1, rd y169 x7_1, false⟩ : S23) )) (Reps.none _ _))); intro v174 w12 ho13 hb hg_ hnew_; clear hg_ hnew_; (first | rw [← Ny173.out] at ho13 | (simp only [Int.reduceToNat] at ho13; rw [← Ny173.out] at ho13)); have n0_ := Aside0.mk (Kd.R_below (by (with_reducible repeat (first | apply Kd.R_alloc | apply Kd.R_drewN | apply Kd.R_drew)); exact HO_5.out) hb); have n1_ := Aside0.mk (Kd.R_lower ho13 (below_size (by repeat (first | (with_reducible first | exact HB.out | apply below_alloc | apply pw_below_drewN | apply below_drew1 | refine below_set ?_ GE168.out) | exact HB.out)))); have n2_ := blkS BK168 hb; have n3_ := Aside0.mk (below_step (by repeat (first | (with_reducible first | exact HB.out | apply below_alloc | apply pw_below_drewN | apply below_drew1 | refine below_set ?_ GE168.out) | exact HB.out)) hb); clear HO_5; clear BK168; clear HB; have HO_5 := n0_; have HO175 := n1_; have BK168 := n2_; have HB := n3_; clear n0_ n1_ n2_ n3_; clear hb ho13; obtain ⟨hcz14_0, hcz14_1, hcz14_2, hcz14_3, hcz14_4, hcz14_5, hcz14_6, hcz14_7, hcz14_8⟩ := cells_9 BK168.out; obtain ⟨hfz14_0, hfz14_1, hfz14_2, hfz14_3, hfz14_4, hfz14_5, hfz14_6, hfz14_7, hfz14_8⟩ := froz_9 BK168.out; obtain ⟨Ao15, co15, eo15⟩ := Kd.R_slice HO175.out; subst eo15) | ((with_reducible refine gate_callee (f := 13) rfl ?_); refine goesL_ (some 17) rfl rfl Try.func13 (by kernel_rfl) rfl #[.slice Ao15 y173.length co15, .agg #[.int .i64 a0_0, .string a0_1, .int .i64 a0_2, .int .i64 a0_3, .int .i64 a0_4, .float .f64 a0_5, .string a0_6, .slice A0_7 l0_7.length c0_7, .slice A0_8 l0_8.length c0_8]] rfl (by (try simp only [List.map_toArray, List.map_cons, List.map_nil]); first | done | rfl | (simp only [List.length_drop, List.length_take]; rfl)) ?_; (with_reducible refine (atom_Check.calls k1 _ _ y173 a0_0 a0_1 a0_2 a0_3 a0_4 a0_5 a0_6 _ _ l0_7 _ _ l0_8 t176 _ ?side1 ?side2 ?side3 ?side4 ?side5 ?side6 A9.out).mono ?_); (case side1 => repeat (first | exact (Kd.R_reads' HO175.out).2.2 | (with_reducible refine Kd.C_alloc ?_ _) | (with_reducible refine Kd.C_drewN ?_ _) | (with_reducible refine Kd.C_drew ?_))); (case side2 => exact (Kd.R_reads' HO175.out).2.1); (case side3 => repeat (first | exact (Kd.C_below HR0_7.out HB.out) | (with_reducible refine Kd.C_alloc ?_ _) | (with_reducible refine Kd.C_drewN ?_ _) | (with_reducible refine Kd.C_drew ?_))); (case side4 => exact HC0_7.out); (case side5 => repeat (first | exact (Kd.C_below HR0_8.out HB.out) | (with_reducible refine Kd.C_alloc ?_ _) | (with_reducible refine Kd.C_drewN ?_ _) | (with_reducible refine Kd.C_drew ?_))); (case side6 => exact HC0_8.out); rintro e w16 ⟨rfl, hb⟩; refine ⟨_, rfl, ?_⟩; have n0_ := Aside0.mk (Kd.R_below (by (with_reducible repeat (first | apply Kd.R_alloc | apply Kd.R_drewN | apply Kd.R_drew)); exact HO_5.out) hb); have n1_ := Aside0.mk (Kd.R_below (by (with_reducible repeat (first | apply Kd.R_alloc | apply Kd.R_drewN | apply Kd.R_drew)); exact HO175.out) hb); have n2_ := blkS BK168 hb; have n3_ := Aside0.mk (below_step (by repeat (first | (with_reducible first | exact HB.out | apply below_alloc | apply pw_below_drewN | apply below_drew1 | refine below_set ?_ GE168.out) | exact HB.out)) hb); clear HO_5; clear HO175; clear BK168; clear HB; have HO_5 := n0_; have HO175 := n1_; have BK168 := n2_; have HB := n3_; clear n0_ n1_ n2_ n3_; (try clear hb); (try clear hb2); (try clear hk); (try clear hi)))
              go_ret
              exact ⟨by first | rfl | (simp [errW_none, errW_some] <;> rfl) | (simp [*, errW_none, errW_some] <;> rfl), by repeat (first | (with_reducible first | exact HB.out | apply below_alloc | apply pw_below_drewN | apply below_drew1 | refine below_set ?_ GE168.out) | exact HB.out)⟩
            · rw [if_neg c10] at H
              have c10b0 : (t176 == 0) = false := beq_eq_false_iff_ne.mpr c10
              have c10b1 : (t176 != 0) = true := bne_iff_ne.mpr c10
              have H' := Aside0.mk H
              clear H
              have p172 : 0 ≤ (x7_1 : Int) := of_decide_eq_true (by first | (with_reducible assumption) | assumption)
              have q172 : x7_1 < (y169.length : Int) := of_decide_eq_true (by first | (with_reducible assumption) | assumption)
              obtain ⟨ad172, e172, hx172_0⟩ := Kd.at_int (Kd.R_reads' HO_5.out).2.2 x7_1 p172 q172
              cases e172
              replace p172 := eq_true p172
              replace q172 := eq_true q172
              obtain ⟨hcz17_0, hcz17_1, hcz17_2, hcz17_3, hcz17_4, hcz17_5, hcz17_6, hcz17_7, hcz17_8⟩ := cells_9 BK168.out
              obtain ⟨hfz17_0, hfz17_1, hfz17_2, hfz17_3, hfz17_4, hfz17_5, hfz17_6, hfz17_7, hfz17_8⟩ := froz_9 BK168.out
              go_wp2_with (first | ((with_reducible refine gate_dst (N := 15) rfl ?_); refine Kd.R_lit k23 _ 23 ?hg (N := 15) ?hd (xs := ([(⟨a0_1, rd y169 x7_1, false⟩ : S23)] : List (S23))) (inner := [.string a0_1, .int .i64 (rd y169 x7_1), .bool false]) (ok := fun _ => True) (okp := fun _ => True) ?hr ?hp (fun _ hk => hk) trivial (Below.refl _ _) (Nat.le_refl _) (by simp) ?_; (case hd => rfl); (case hg => rfl); (case hr => first | (go_simp; done) | (go_simp; rfl)); (case hp => exact (Reps.c3 (show Kd.M k23 _ _ _ (⟨a0_1, rd y169 x7_1, false⟩ : S23) [.string a0_1, .int .i64 (rd y169 x7_1), .bool false] from (k23_mkM _ _ _ (⟨a0_1, rd y169 x7_1, false⟩ : S23) )) (Reps.none _ _))); intro v174 w18 ho19 hb hg_ hnew_; clear hg_ hnew_; (first | rw [← Ny173.out] at ho19 | (simp only [Int.reduceToNat] at ho19; rw [← Ny173.out] at ho19)); have n0_ := Aside0.mk (Kd.R_below (by (with_reducible repeat (first | apply Kd.R_alloc | apply Kd.R_drewN | apply Kd.R_drew)); exact HO_5.out) hb); have n1_ := Aside0.mk (Kd.R_lower ho19 (below_size (by repeat (first | (with_reducible first | exact HB.out | apply below_alloc | apply pw_below_drewN | apply below_drew1 | refine below_set ?_ GE168.out) | exact HB.out)))); have n2_ := blkS BK168 hb; have n3_ := Aside0.mk (below_step (by repeat (first | (with_reducible first | exact HB.out | apply below_alloc | apply pw_below_drewN | apply below_drew1 | refine below_set ?_ GE168.out) | exact HB.out)) hb); clear HO_5; clear BK168; clear HB; have HO_5 := n0_; have HO175 := n1_; have BK168 := n2_; have HB := n3_; clear n0_ n1_ n2_ n3_; clear hb ho19; obtain ⟨hcz20_0, hcz20_1, hcz20_2, hcz20_3, hcz20_4, hcz20_5, hcz20_6, hcz20_7, hcz20_8⟩ := cells_9 BK168.out; obtain ⟨hfz20_0, hfz20_1, hfz20_2, hfz20_3, hfz20_4, hfz20_5, hfz20_6, hfz20_7, hfz20_8⟩ := froz_9 BK168.out; obtain ⟨Ao21, co21, eo21⟩ := Kd.R_slice HO175.out; subst eo21) | ((with_reducible refine gate_callee (f := 13) rfl ?_); refine goesL_ (some 17) rfl rfl Try.func13 (by kernel_rfl) rfl #[.slice Ao21 y173.length co21, .agg #[.int .i64 a0_0, .string a0_1, .int .i64 a0_2, .int .i64 a0_3, .int .i64 a0_4, .float .f64 a0_5, .string a0_6, .slice A0_7 l0_7.length c0_7, .slice A0_8 l0_8.length c0_8]] rfl (by (try simp only [List.map_toArray, List.map_cons, List.map_nil]); first | done | rfl | (simp only [List.length_drop, List.length_take]; rfl)) ?_; (with_reducible refine (atom_Check.calls k1 _ _ y173 a0_0 a0_1 a0_2 a0_3 a0_4 a0_5 a0_6 _ _ l0_7 _ _ l0_8 t176 _ ?side1 ?side2 ?side3 ?side4 ?side5 ?side6 A9.out).mono ?_); (case side1 => repeat (first | exact (Kd.R_reads' HO175.out).2.2 | (with_reducible refine Kd.C_alloc ?_ _) | (with_reducible refine Kd.C_drewN ?_ _) | (with_reducible refine Kd.C_drew ?_))); (case side2 => exact (Kd.R_reads' HO175.out).2.1); (case side3 => repeat (first | exact (Kd.C_below HR0_7.out HB.out) | (with_reducible refine Kd.C_alloc ?_ _) | (with_reducible refine Kd.C_drewN ?_ _) | (with_reducible refine Kd.C_drew ?_))); (case side4 => exact HC0_7.out); (case side5 => repeat (first | exact (Kd.C_below HR0_8.out HB.out) | (with_reducible refine Kd.C_alloc ?_ _) | (with_reducible refine Kd.C_drewN ?_ _) | (with_reducible refine Kd.C_drew ?_))); (case side6 => exact HC0_8.out); rintro e w22 ⟨rfl, hb⟩; refine ⟨_, rfl, ?_⟩; have n0_ := Aside0.mk (Kd.R_below (by (with_reducible repeat (first | apply Kd.R_alloc | apply Kd.R_drewN | apply Kd.R_drew)); exact HO_5.out) hb); have n1_ := Aside0.mk (Kd.R_below (by (with_reducible repeat (first | apply Kd.R_alloc | apply Kd.R_drewN | apply Kd.R_drew)); exact HO175.out) hb); have n2_ := blkS BK168 hb; have n3_ := Aside0.mk (below_step (by repeat (first | (with_reducible first | exact HB.out | apply below_alloc | apply pw_below_drewN | apply below_drew1 | refine below_set ?_ GE168.out) | exact HB.out)) hb); clear HO_5; clear HO175; clear BK168; clear HB; have HO_5 := n0_; have HO175 := n1_; have BK168 := n2_; have HB := n3_; clear n0_ n1_ n2_ n3_; (try clear hb); (try clear hb2); (try clear hk); (try clear hi)))
              go_roundg k1
              case measure => have := HK1.out; omega
              case rel => exact ⟨(wrap64 (x7_1 + 1)), (by first | rfl | (simp; done) | (simp [*]; done)), H', ⟨by have := HK1.out; omega⟩, ⟨by (with_reducible repeat (first | apply Kd.R_alloc | apply Kd.R_drewN | apply Kd.R_drew)); exact HO_5.out⟩, ⟨by (with_reducible repeat (first | refine blk_drewN ?_ _ | refine blk_drew ?_ | refine blk_alloc ?_ _)); exact BK168.out⟩, ⟨by repeat (first | (with_reducible first | exact HB.out | apply below_alloc | apply pw_below_drewN | apply below_drew1 | refine below_set ?_ GE168.out) | exact HB.out)⟩⟩
          · rw [if_neg c8] at H
            exact absurd H (by simp)
        · rw [if_neg c7] at H
          exact absurd H (by simp)
      · rw [if_neg c6] at H
        have c6b0 : decide (x7_1 < (y169.length : Int)) = false := decide_eq_false c6
        clear c6
        obtain rfl := Option.some.inj H
        go_wp2
        go_ret
        exact ⟨by first | rfl | (simp [errW_none, errW_some] <;> rfl) | (simp [*, errW_none, errW_some] <;> rfl), by repeat (first | (with_reducible first | exact HB.out | apply below_alloc | apply pw_below_drewN | apply below_drew1 | refine below_set ?_ GE168.out) | exact HB.out)⟩

end Go.Proofs.Ytkedejphebfneaa.Pa
end
section
/- atom.Bounds, its walk by hand. -/
namespace Go.Proofs.Ytkedejphebfneaa.Pa
open Go.Proofs.Ytkedejphebfneaa.L Go.RowKit Go.Proofs.YtkedejphebfneaaW.PrintWords Go.Proofs.YtkedejphebfneaaW.PrintLast Go.Proofs.YtkedejphebfneaaW.PrintMore
set_option linter.unusedVariables false
set_option linter.unusedSimpArgs false
attribute [local go_sem] run_store_float cmp_feq cmp_fne cmp_flt cmp_fle cmp_fgt cmp_fge un_fneg equalIn_feq run_fop run_fint run_freal cmp_sgt
theorem vcells {W : World} {g : Nat} {t : TypeId} {v0 v1 v2 v3 : Value} (h : W.heap[g]? = some (.cells #[v0, v1, v2, v3] t (0, 0))) :
    W.cell? ⟨g, 0, none⟩ = some v0 ∧ W.cell? ⟨g, 1, none⟩ = some v1 ∧ W.cell? ⟨g, 2, none⟩ = some v2 ∧ W.cell? ⟨g, 3, none⟩ = some v3 ∧ W.frozen? ⟨g, 0, none⟩ = false ∧ W.frozen? ⟨g, 1, none⟩ = false ∧ W.frozen? ⟨g, 2, none⟩ = false ∧ W.frozen? ⟨g, 3, none⟩ = false :=
  ⟨(blk_cell h 0).trans rfl, (blk_cell h 1).trans rfl, (blk_cell h 2).trans rfl, (blk_cell h 3).trans rfl, blk_frozen h 0, blk_frozen h 1, blk_frozen h 2, blk_frozen h 3⟩
theorem put4 {W : World} {g : Nat} {t : TypeId} {x0 x1 x2 x3 y0 y1 y2 y3 : Value} (h : W.heap[g]? = some (.cells #[x0, x1, x2, x3] t (0, 0))) : ((((W.setCell ⟨g, 0, none⟩ y0).setCell ⟨g, 1, none⟩ y1).setCell ⟨g, 2, none⟩ y2).setCell ⟨g, 3, none⟩ y3).heap[g]? = some (.cells #[y0, y1, y2, y3] t (0, 0)) :=
  blk_put (cs := #[y0, y1, y2, x3]) (blk_put (cs := #[y0, y1, x2, x3]) (blk_put (cs := #[y0, x1, x2, x3]) (blk_put (cs := #[x0, x1, x2, x3]) h 0 y0 rfl) 1 y1 rfl) 2 y2 rfl) 3 y3 rfl
theorem far4 {W : World} {g g' : Nat} {o : Obj} {y0 y1 y2 y3 : Value} (h : W.heap[g]? = some o) (hne : g ≠ g') : ((((W.setCell ⟨g', 0, none⟩ y0).setCell ⟨g', 1, none⟩ y1).setCell ⟨g', 2, none⟩ y2).setCell ⟨g', 3, none⟩ y3).heap[g]? = some o := by
  rw [Below.heap_setCell _ _ _ _ hne, Below.heap_setCell _ _ _ _ hne, Below.heap_setCell _ _ _ _ hne, Below.heap_setCell _ _ _ _ hne]; exact h
set_option maxHeartbeats 16000000 in
theorem bounds_no (k : Nat) (a0_0 : Int) (a0_1 : ByteArray) (a0_2 : Int) (a0_3 a0_4 : Int) (a0_5 : Nat) (a0_6 : ByteArray) (A0_7 : Option Addr) (c0_7 : Nat) (l0_7 : List S28) (A0_8 : Option Addr) (c0_8 : Nat) (l0_8 : List S32) (w : World) (HR7 : Aside0 (Kd.C k28 w A0_7 l0_7.length l0_7 ∧ l0_7.length ≤ c0_7)) (HR8 : Aside0 (Kd.C k32 w A0_8 l0_8.length l0_8 ∧ l0_8.length ≤ c0_8)) (HR : Aside0 (atom_right.f k a0_0 a0_1 a0_2 a0_3 a0_4 a0_5 a0_6 l0_7 l0_8 = some false)) :
    Calls Try.prog 25 #[.agg #[.int .i64 a0_0, .string a0_1, .int .i64 a0_2, .int .i64 a0_3, .int .i64 a0_4, .float .f64 a0_5, .string a0_6, .slice A0_7 l0_7.length c0_7, .slice A0_8 l0_8.length c0_8]] w fun e w' => e = .returned (.tuple #[.agg #[.int .i64 0, .int .i64 0, .float .f64 0, .string ⟨#[]⟩], .agg #[.int .i64 0, .int .i64 0, .float .f64 0, .string ⟨#[]⟩], .bool false]) ∧ Below w.heap.size w w' := by
  go_enter Try.func25, Try.ntmps25
  go_wp2_with (go_at_call 55; refine (atom_right.calls k a0_0 a0_1 a0_2 a0_3 a0_4 a0_5 a0_6 A0_7 c0_7 l0_7 A0_8 c0_8 l0_8 false _ (Kd.C_below HR7.out.1 (below_alloc (below_alloc (below_alloc (Below.refl _ _) _) _) _)) HR7.out.2 (Kd.C_below HR8.out.1 (below_alloc (below_alloc (below_alloc (Below.refl _ _) _) _) _)) HR8.out.2 HR.out).mono ?_; rintro e w1 ⟨rfl, hb⟩; have HB : Aside0 (Below w.heap.size w w1) := ⟨below_step (below_alloc (below_alloc (below_alloc (Below.refl _ _) _) _) _) hb⟩; have BK1 : Aside0 (w1.heap[w.heap.size]? = some (.cells #[.int .i64 a0_0, .string a0_1, .int .i64 a0_2, .int .i64 a0_3, .int .i64 a0_4, .float .f64 a0_5, .string a0_6, .slice A0_7 l0_7.length c0_7, .slice A0_8 l0_8.length c0_8] 32 (0, 0))) := ⟨blk_below (blk_alloc (blk_alloc (blk_new _ _) _) _) hb⟩; have BK2 : Aside0 (w1.heap[w.heap.size + 1]? = some (.cells #[.int .i64 0, .int .i64 0, .float .f64 0, .string ⟨#[]⟩] 28 (0, 0))) := ⟨blk_below (blk_alloc (by simpa using blk_new (w.alloc _) _) _) hb⟩; have BK3 : Aside0 (w1.heap[w.heap.size + 1 + 1]? = some (.cells #[.int .i64 0, .int .i64 0, .float .f64 0, .string ⟨#[]⟩] 28 (0, 0))) := ⟨blk_below (by simpa using blk_new ((w.alloc _).alloc _) _) hb⟩; clear hb; obtain ⟨p0, p1, p2, p3, p4, p5, p6, p7, p8⟩ := pcells BK1.out; obtain ⟨l0, l1, l2, l3, f0, f1, f2, f3⟩ := vcells BK2.out; obtain ⟨h0, h1, h2, h3, f4, f5, f6, f7⟩ := vcells BK3.out)
  go_region
  go_wp2
  refine bodyPost_ret (results_list (rs := [.cell 2 28, .cell 3 28, .tmp 4]) rfl (by simp) (.cell (w.heap.size + 1) 28 #[.int .i64 0, .int .i64 0, .float .f64 0, .string ⟨#[]⟩] (0, 0) _ rfl (blk_drew (far4 (put4 BK2.out) (by omega))) Try.underlying28 rfl (by kernel_rfl) (.cell (w.heap.size + 1 + 1) 28 #[.int .i64 0, .int .i64 0, .float .f64 0, .string ⟨#[]⟩] (0, 0) _ rfl (blk_drew (put4 (far4 BK3.out (by omega)))) Try.underlying28 rfl (by kernel_rfl) (.tmp .nil)))) rfl ?_
  exact ⟨rfl, by refine below_drew ?_; (repeat refine below_set ?_ (by omega)); exact HB.out⟩
set_option maxHeartbeats 16000000 in
theorem bounds_eq (k : Nat) (a0_1 : ByteArray) (a0_3 a0_4 : Int) (a0_5 : Nat) (a0_6 : ByteArray) (A0_7 : Option Addr) (c0_7 : Nat) (l0_7 : List S28) (A0_8 : Option Addr) (c0_8 : Nat) (l0_8 : List S32) (w : World) (HR7 : Aside0 (Kd.C k28 w A0_7 l0_7.length l0_7 ∧ l0_7.length ≤ c0_7)) (HR8 : Aside0 (Kd.C k32 w A0_8 l0_8.length l0_8 ∧ l0_8.length ≤ c0_8)) (HR : Aside0 (atom_right.f k 1 a0_1 1 a0_3 a0_4 a0_5 a0_6 l0_7 l0_8 = some true)) :
    Calls Try.prog 25 #[.agg #[.int .i64 1, .string a0_1, .int .i64 1, .int .i64 a0_3, .int .i64 a0_4, .float .f64 a0_5, .string a0_6, .slice A0_7 l0_7.length c0_7, .slice A0_8 l0_8.length c0_8]] w fun e w' => e = .returned (.tuple #[.agg #[.int .i64 a0_3, .int .i64 a0_4, .float .f64 a0_5, .string a0_6], .agg #[.int .i64 a0_3, .int .i64 a0_4, .float .f64 a0_5, .string a0_6], .bool true]) ∧ Below w.heap.size w w' := by
  go_enter Try.func25, Try.ntmps25
  go_wp2_with (go_at_call 55; refine (atom_right.calls k 1 a0_1 1 a0_3 a0_4 a0_5 a0_6 A0_7 c0_7 l0_7 A0_8 c0_8 l0_8 true _ (Kd.C_below HR7.out.1 (below_alloc (below_alloc (below_alloc (Below.refl _ _) _) _) _)) HR7.out.2 (Kd.C_below HR8.out.1 (below_alloc (below_alloc (below_alloc (Below.refl _ _) _) _) _)) HR8.out.2 HR.out).mono ?_; rintro e w1 ⟨rfl, hb⟩; have HB : Aside0 (Below w.heap.size w w1) := ⟨below_step (below_alloc (below_alloc (below_alloc (Below.refl _ _) _) _) _) hb⟩; have BK1 : Aside0 (w1.heap[w.heap.size]? = some (.cells #[.int .i64 1, .string a0_1, .int .i64 1, .int .i64 a0_3, .int .i64 a0_4, .float .f64 a0_5, .string a0_6, .slice A0_7 l0_7.length c0_7, .slice A0_8 l0_8.length c0_8] 32 (0, 0))) := ⟨blk_below (blk_alloc (blk_alloc (blk_new _ _) _) _) hb⟩; have BK2 : Aside0 (w1.heap[w.heap.size + 1]? = some (.cells #[.int .i64 0, .int .i64 0, .float .f64 0, .string ⟨#[]⟩] 28 (0, 0))) := ⟨blk_below (blk_alloc (by simpa using blk_new (w.alloc _) _) _) hb⟩; have BK3 : Aside0 (w1.heap[w.heap.size + 1 + 1]? = some (.cells #[.int .i64 0, .int .i64 0, .float .f64 0, .string ⟨#[]⟩] 28 (0, 0))) := ⟨blk_below (by simpa using blk_new ((w.alloc _).alloc _) _) hb⟩; clear hb; obtain ⟨p0, p1, p2, p3, p4, p5, p6, p7, p8⟩ := pcells BK1.out; obtain ⟨l0, l1, l2, l3, f0, f1, f2, f3⟩ := vcells BK2.out; obtain ⟨h0, h1, h2, h3, f4, f5, f6, f7⟩ := vcells BK3.out)
  go_region
  go_wp2
  refine bodyPost_ret (results_list (rs := [.cell 2 28, .cell 3 28, .tmp 4]) rfl (by simp) (.cell (w.heap.size + 1) 28 #[.int .i64 a0_3, .int .i64 a0_4, .float .f64 a0_5, .string a0_6] (0, 0) _ rfl (blk_drew (far4 (put4 BK2.out) (by omega))) Try.underlying28 rfl (by kernel_rfl) (.cell (w.heap.size + 1 + 1) 28 #[.int .i64 a0_3, .int .i64 a0_4, .float .f64 a0_5, .string a0_6] (0, 0) _ rfl (blk_drew (put4 (far4 BK3.out (by omega)))) Try.underlying28 rfl (by kernel_rfl) (.tmp .nil)))) rfl ?_
  exact ⟨rfl, by refine below_drew ?_; (repeat refine below_set ?_ (by omega)); exact HB.out⟩
set_option maxHeartbeats 16000000 in
theorem bounds_lt (k : Nat) (a0_1 : ByteArray) (a0_3 a0_4 : Int) (a0_5 : Nat) (a0_6 : ByteArray) (A0_7 : Option Addr) (c0_7 : Nat) (l0_7 : List S28) (A0_8 : Option Addr) (c0_8 : Nat) (l0_8 : List S32) (w : World) (HR7 : Aside0 (Kd.C k28 w A0_7 l0_7.length l0_7 ∧ l0_7.length ≤ c0_7)) (HR8 : Aside0 (Kd.C k32 w A0_8 l0_8.length l0_8 ∧ l0_8.length ≤ c0_8)) (HR : Aside0 (atom_right.f k 1 a0_1 3 a0_3 a0_4 a0_5 a0_6 l0_7 l0_8 = some true)) :
    Calls Try.prog 25 #[.agg #[.int .i64 1, .string a0_1, .int .i64 3, .int .i64 a0_3, .int .i64 a0_4, .float .f64 a0_5, .string a0_6, .slice A0_7 l0_7.length c0_7, .slice A0_8 l0_8.length c0_8]] w fun e w' => e = .returned (.tuple #[.agg #[.int .i64 0, .int .i64 0, .float .f64 0, .string ⟨#[]⟩], .agg #[.int .i64 a0_3, .int .i64 a0_4, .float .f64 a0_5, .string a0_6], .bool true]) ∧ Below w.heap.size w w' := by
  go_enter Try.func25, Try.ntmps25
  go_wp2_with (go_at_call 55; refine (atom_right.calls k 1 a0_1 3 a0_3 a0_4 a0_5 a0_6 A0_7 c0_7 l0_7 A0_8 c0_8 l0_8 true _ (Kd.C_below HR7.out.1 (below_alloc (below_alloc (below_alloc (Below.refl _ _) _) _) _)) HR7.out.2 (Kd.C_below HR8.out.1 (below_alloc (below_alloc (below_alloc (Below.refl _ _) _) _) _)) HR8.out.2 HR.out).mono ?_; rintro e w1 ⟨rfl, hb⟩; have HB : Aside0 (Below w.heap.size w w1) := ⟨below_step (below_alloc (below_alloc (below_alloc (Below.refl _ _) _) _) _) hb⟩; have BK1 : Aside0 (w1.heap[w.heap.size]? = some (.cells #[.int .i64 1, .string a0_1, .int .i64 3, .int .i64 a0_3, .int .i64 a0_4, .float .f64 a0_5, .string a0_6, .slice A0_7 l0_7.length c0_7, .slice A0_8 l0_8.length c0_8] 32 (0, 0))) := ⟨blk_below (blk_alloc (blk_alloc (blk_new _ _) _) _) hb⟩; have BK2 : Aside0 (w1.heap[w.heap.size + 1]? = some (.cells #[.int .i64 0, .int .i64 0, .float .f64 0, .string ⟨#[]⟩] 28 (0, 0))) := ⟨blk_below (blk_alloc (by simpa using blk_new (w.alloc _) _) _) hb⟩; have BK3 : Aside0 (w1.heap[w.heap.size + 1 + 1]? = some (.cells #[.int .i64 0, .int .i64 0, .float .f64 0, .string ⟨#[]⟩] 28 (0, 0))) := ⟨blk_below (by simpa using blk_new ((w.alloc _).alloc _) _) hb⟩; clear hb; obtain ⟨p0, p1, p2, p3, p4, p5, p6, p7, p8⟩ := pcells BK1.out; obtain ⟨l0, l1, l2, l3, f0, f1, f2, f3⟩ := vcells BK2.out; obtain ⟨h0, h1, h2, h3, f4, f5, f6, f7⟩ := vcells BK3.out)
  go_region
  go_wp2
  refine bodyPost_ret (results_list (rs := [.cell 2 28, .cell 3 28, .tmp 4]) rfl (by simp) (.cell (w.heap.size + 1) 28 #[.int .i64 0, .int .i64 0, .float .f64 0, .string ⟨#[]⟩] (0, 0) _ rfl (blk_drew (far4 (put4 BK2.out) (by omega))) Try.underlying28 rfl (by kernel_rfl) (.cell (w.heap.size + 1 + 1) 28 #[.int .i64 a0_3, .int .i64 a0_4, .float .f64 a0_5, .string a0_6] (0, 0) _ rfl (blk_drew (put4 (far4 BK3.out (by omega)))) Try.underlying28 rfl (by kernel_rfl) (.tmp .nil)))) rfl ?_
  exact ⟨rfl, by refine below_drew ?_; (repeat refine below_set ?_ (by omega)); exact HB.out⟩
set_option maxHeartbeats 16000000 in
theorem bounds_le (k : Nat) (a0_1 : ByteArray) (a0_3 a0_4 : Int) (a0_5 : Nat) (a0_6 : ByteArray) (A0_7 : Option Addr) (c0_7 : Nat) (l0_7 : List S28) (A0_8 : Option Addr) (c0_8 : Nat) (l0_8 : List S32) (w : World) (HR7 : Aside0 (Kd.C k28 w A0_7 l0_7.length l0_7 ∧ l0_7.length ≤ c0_7)) (HR8 : Aside0 (Kd.C k32 w A0_8 l0_8.length l0_8 ∧ l0_8.length ≤ c0_8)) (HR : Aside0 (atom_right.f k 1 a0_1 4 a0_3 a0_4 a0_5 a0_6 l0_7 l0_8 = some true)) :
    Calls Try.prog 25 #[.agg #[.int .i64 1, .string a0_1, .int .i64 4, .int .i64 a0_3, .int .i64 a0_4, .float .f64 a0_5, .string a0_6, .slice A0_7 l0_7.length c0_7, .slice A0_8 l0_8.length c0_8]] w fun e w' => e = .returned (.tuple #[.agg #[.int .i64 0, .int .i64 0, .float .f64 0, .string ⟨#[]⟩], .agg #[.int .i64 a0_3, .int .i64 a0_4, .float .f64 a0_5, .string a0_6], .bool true]) ∧ Below w.heap.size w w' := by
  go_enter Try.func25, Try.ntmps25
  go_wp2_with (go_at_call 55; refine (atom_right.calls k 1 a0_1 4 a0_3 a0_4 a0_5 a0_6 A0_7 c0_7 l0_7 A0_8 c0_8 l0_8 true _ (Kd.C_below HR7.out.1 (below_alloc (below_alloc (below_alloc (Below.refl _ _) _) _) _)) HR7.out.2 (Kd.C_below HR8.out.1 (below_alloc (below_alloc (below_alloc (Below.refl _ _) _) _) _)) HR8.out.2 HR.out).mono ?_; rintro e w1 ⟨rfl, hb⟩; have HB : Aside0 (Below w.heap.size w w1) := ⟨below_step (below_alloc (below_alloc (below_alloc (Below.refl _ _) _) _) _) hb⟩; have BK1 : Aside0 (w1.heap[w.heap.size]? = some (.cells #[.int .i64 1, .string a0_1, .int .i64 4, .int .i64 a0_3, .int .i64 a0_4, .float .f64 a0_5, .string a0_6, .slice A0_7 l0_7.length c0_7, .slice A0_8 l0_8.length c0_8] 32 (0, 0))) := ⟨blk_below (blk_alloc (blk_alloc (blk_new _ _) _) _) hb⟩; have BK2 : Aside0 (w1.heap[w.heap.size + 1]? = some (.cells #[.int .i64 0, .int .i64 0, .float .f64 0, .string ⟨#[]⟩] 28 (0, 0))) := ⟨blk_below (blk_alloc (by simpa using blk_new (w.alloc _) _) _) hb⟩; have BK3 : Aside0 (w1.heap[w.heap.size + 1 + 1]? = some (.cells #[.int .i64 0, .int .i64 0, .float .f64 0, .string ⟨#[]⟩] 28 (0, 0))) := ⟨blk_below (by simpa using blk_new ((w.alloc _).alloc _) _) hb⟩; clear hb; obtain ⟨p0, p1, p2, p3, p4, p5, p6, p7, p8⟩ := pcells BK1.out; obtain ⟨l0, l1, l2, l3, f0, f1, f2, f3⟩ := vcells BK2.out; obtain ⟨h0, h1, h2, h3, f4, f5, f6, f7⟩ := vcells BK3.out)
  go_region
  go_wp2
  refine bodyPost_ret (results_list (rs := [.cell 2 28, .cell 3 28, .tmp 4]) rfl (by simp) (.cell (w.heap.size + 1) 28 #[.int .i64 0, .int .i64 0, .float .f64 0, .string ⟨#[]⟩] (0, 0) _ rfl (blk_drew (far4 (put4 BK2.out) (by omega))) Try.underlying28 rfl (by kernel_rfl) (.cell (w.heap.size + 1 + 1) 28 #[.int .i64 a0_3, .int .i64 a0_4, .float .f64 a0_5, .string a0_6] (0, 0) _ rfl (blk_drew (put4 (far4 BK3.out (by omega)))) Try.underlying28 rfl (by kernel_rfl) (.tmp .nil)))) rfl ?_
  exact ⟨rfl, by refine below_drew ?_; (repeat refine below_set ?_ (by omega)); exact HB.out⟩
set_option maxHeartbeats 16000000 in
theorem bounds_gt (k : Nat) (a0_1 : ByteArray) (a0_3 a0_4 : Int) (a0_5 : Nat) (a0_6 : ByteArray) (A0_7 : Option Addr) (c0_7 : Nat) (l0_7 : List S28) (A0_8 : Option Addr) (c0_8 : Nat) (l0_8 : List S32) (w : World) (HR7 : Aside0 (Kd.C k28 w A0_7 l0_7.length l0_7 ∧ l0_7.length ≤ c0_7)) (HR8 : Aside0 (Kd.C k32 w A0_8 l0_8.length l0_8 ∧ l0_8.length ≤ c0_8)) (HR : Aside0 (atom_right.f k 1 a0_1 5 a0_3 a0_4 a0_5 a0_6 l0_7 l0_8 = some true)) :
    Calls Try.prog 25 #[.agg #[.int .i64 1, .string a0_1, .int .i64 5, .int .i64 a0_3, .int .i64 a0_4, .float .f64 a0_5, .string a0_6, .slice A0_7 l0_7.length c0_7, .slice A0_8 l0_8.length c0_8]] w fun e w' => e = .returned (.tuple #[.agg #[.int .i64 a0_3, .int .i64 a0_4, .float .f64 a0_5, .string a0_6], .agg #[.int .i64 0, .int .i64 0, .float .f64 0, .string ⟨#[]⟩], .bool true]) ∧ Below w.heap.size w w' := by
  go_enter Try.func25, Try.ntmps25
  go_wp2_with (go_at_call 55; refine (atom_right.calls k 1 a0_1 5 a0_3 a0_4 a0_5 a0_6 A0_7 c0_7 l0_7 A0_8 c0_8 l0_8 true _ (Kd.C_below HR7.out.1 (below_alloc (below_alloc (below_alloc (Below.refl _ _) _) _) _)) HR7.out.2 (Kd.C_below HR8.out.1 (below_alloc (below_alloc (below_alloc (Below.refl _ _) _) _) _)) HR8.out.2 HR.out).mono ?_; rintro e w1 ⟨rfl, hb⟩; have HB : Aside0 (Below w.heap.size w w1) := ⟨below_step (below_alloc (below_alloc (below_alloc (Below.refl _ _) _) _) _) hb⟩; have BK1 : Aside0 (w1.heap[w.heap.size]? = some (.cells #[.int .i64 1, .string a0_1, .int .i64 5, .int .i64 a0_3, .int .i64 a0_4, .float .f64 a0_5, .string a0_6, .slice A0_7 l0_7.length c0_7, .slice A0_8 l0_8.length c0_8] 32 (0, 0))) := ⟨blk_below (blk_alloc (blk_alloc (blk_new _ _) _) _) hb⟩; have BK2 : Aside0 (w1.heap[w.heap.size + 1]? = some (.cells #[.int .i64 0, .int .i64 0, .float .f64 0, .string ⟨#[]⟩] 28 (0, 0))) := ⟨blk_below (blk_alloc (by simpa using blk_new (w.alloc _) _) _) hb⟩; have BK3 : Aside0 (w1.heap[w.heap.size + 1 + 1]? = some (.cells #[.int .i64 0, .int .i64 0, .float .f64 0, .string ⟨#[]⟩] 28 (0, 0))) := ⟨blk_below (by simpa using blk_new ((w.alloc _).alloc _) _) hb⟩; clear hb; obtain ⟨p0, p1, p2, p3, p4, p5, p6, p7, p8⟩ := pcells BK1.out; obtain ⟨l0, l1, l2, l3, f0, f1, f2, f3⟩ := vcells BK2.out; obtain ⟨h0, h1, h2, h3, f4, f5, f6, f7⟩ := vcells BK3.out)
  go_region
  go_wp2
  refine bodyPost_ret (results_list (rs := [.cell 2 28, .cell 3 28, .tmp 4]) rfl (by simp) (.cell (w.heap.size + 1) 28 #[.int .i64 a0_3, .int .i64 a0_4, .float .f64 a0_5, .string a0_6] (0, 0) _ rfl (blk_drew (far4 (put4 BK2.out) (by omega))) Try.underlying28 rfl (by kernel_rfl) (.cell (w.heap.size + 1 + 1) 28 #[.int .i64 0, .int .i64 0, .float .f64 0, .string ⟨#[]⟩] (0, 0) _ rfl (blk_drew (put4 (far4 BK3.out (by omega)))) Try.underlying28 rfl (by kernel_rfl) (.tmp .nil)))) rfl ?_
  exact ⟨rfl, by refine below_drew ?_; (repeat refine below_set ?_ (by omega)); exact HB.out⟩
set_option maxHeartbeats 16000000 in
theorem bounds_ge (k : Nat) (a0_1 : ByteArray) (a0_3 a0_4 : Int) (a0_5 : Nat) (a0_6 : ByteArray) (A0_7 : Option Addr) (c0_7 : Nat) (l0_7 : List S28) (A0_8 : Option Addr) (c0_8 : Nat) (l0_8 : List S32) (w : World) (HR7 : Aside0 (Kd.C k28 w A0_7 l0_7.length l0_7 ∧ l0_7.length ≤ c0_7)) (HR8 : Aside0 (Kd.C k32 w A0_8 l0_8.length l0_8 ∧ l0_8.length ≤ c0_8)) (HR : Aside0 (atom_right.f k 1 a0_1 6 a0_3 a0_4 a0_5 a0_6 l0_7 l0_8 = some true)) :
    Calls Try.prog 25 #[.agg #[.int .i64 1, .string a0_1, .int .i64 6, .int .i64 a0_3, .int .i64 a0_4, .float .f64 a0_5, .string a0_6, .slice A0_7 l0_7.length c0_7, .slice A0_8 l0_8.length c0_8]] w fun e w' => e = .returned (.tuple #[.agg #[.int .i64 a0_3, .int .i64 a0_4, .float .f64 a0_5, .string a0_6], .agg #[.int .i64 0, .int .i64 0, .float .f64 0, .string ⟨#[]⟩], .bool true]) ∧ Below w.heap.size w w' := by
  go_enter Try.func25, Try.ntmps25
  go_wp2_with (go_at_call 55; refine (atom_right.calls k 1 a0_1 6 a0_3 a0_4 a0_5 a0_6 A0_7 c0_7 l0_7 A0_8 c0_8 l0_8 true _ (Kd.C_below HR7.out.1 (below_alloc (below_alloc (below_alloc (Below.refl _ _) _) _) _)) HR7.out.2 (Kd.C_below HR8.out.1 (below_alloc (below_alloc (below_alloc (Below.refl _ _) _) _) _)) HR8.out.2 HR.out).mono ?_; rintro e w1 ⟨rfl, hb⟩; have HB : Aside0 (Below w.heap.size w w1) := ⟨below_step (below_alloc (below_alloc (below_alloc (Below.refl _ _) _) _) _) hb⟩; have BK1 : Aside0 (w1.heap[w.heap.size]? = some (.cells #[.int .i64 1, .string a0_1, .int .i64 6, .int .i64 a0_3, .int .i64 a0_4, .float .f64 a0_5, .string a0_6, .slice A0_7 l0_7.length c0_7, .slice A0_8 l0_8.length c0_8] 32 (0, 0))) := ⟨blk_below (blk_alloc (blk_alloc (blk_new _ _) _) _) hb⟩; have BK2 : Aside0 (w1.heap[w.heap.size + 1]? = some (.cells #[.int .i64 0, .int .i64 0, .float .f64 0, .string ⟨#[]⟩] 28 (0, 0))) := ⟨blk_below (blk_alloc (by simpa using blk_new (w.alloc _) _) _) hb⟩; have BK3 : Aside0 (w1.heap[w.heap.size + 1 + 1]? = some (.cells #[.int .i64 0, .int .i64 0, .float .f64 0, .string ⟨#[]⟩] 28 (0, 0))) := ⟨blk_below (by simpa using blk_new ((w.alloc _).alloc _) _) hb⟩; clear hb; obtain ⟨p0, p1, p2, p3, p4, p5, p6, p7, p8⟩ := pcells BK1.out; obtain ⟨l0, l1, l2, l3, f0, f1, f2, f3⟩ := vcells BK2.out; obtain ⟨h0, h1, h2, h3, f4, f5, f6, f7⟩ := vcells BK3.out)
  go_region
  go_wp2
  refine bodyPost_ret (results_list (rs := [.cell 2 28, .cell 3 28, .tmp 4]) rfl (by simp) (.cell (w.heap.size + 1) 28 #[.int .i64 a0_3, .int .i64 a0_4, .float .f64 a0_5, .string a0_6] (0, 0) _ rfl (blk_drew (far4 (put4 BK2.out) (by omega))) Try.underlying28 rfl (by kernel_rfl) (.cell (w.heap.size + 1 + 1) 28 #[.int .i64 0, .int .i64 0, .float .f64 0, .string ⟨#[]⟩] (0, 0) _ rfl (blk_drew (put4 (far4 BK3.out (by omega)))) Try.underlying28 rfl (by kernel_rfl) (.tmp .nil)))) rfl ?_
  exact ⟨rfl, by refine below_drew ?_; (repeat refine below_set ?_ (by omega)); exact HB.out⟩
set_option maxHeartbeats 16000000 in
theorem bounds_ne (k : Nat) (a0_1 : ByteArray) (a0_2 : Int) (a0_3 a0_4 : Int) (a0_5 : Nat) (a0_6 : ByteArray) (A0_7 : Option Addr) (c0_7 : Nat) (l0_7 : List S28) (A0_8 : Option Addr) (c0_8 : Nat) (l0_8 : List S32) (w : World) (HR7 : Aside0 (Kd.C k28 w A0_7 l0_7.length l0_7 ∧ l0_7.length ≤ c0_7)) (HR8 : Aside0 (Kd.C k32 w A0_8 l0_8.length l0_8 ∧ l0_8.length ≤ c0_8)) (HR : Aside0 (atom_right.f k 1 a0_1 a0_2 a0_3 a0_4 a0_5 a0_6 l0_7 l0_8 = some true)) (ho : ¬ (a0_2 = 1 ∨ a0_2 = 3 ∨ a0_2 = 4 ∨ a0_2 = 5 ∨ a0_2 = 6)) :
    Calls Try.prog 25 #[.agg #[.int .i64 1, .string a0_1, .int .i64 a0_2, .int .i64 a0_3, .int .i64 a0_4, .float .f64 a0_5, .string a0_6, .slice A0_7 l0_7.length c0_7, .slice A0_8 l0_8.length c0_8]] w fun e w' => e = .returned (.tuple #[.agg #[.int .i64 0, .int .i64 0, .float .f64 0, .string ⟨#[]⟩], .agg #[.int .i64 0, .int .i64 0, .float .f64 0, .string ⟨#[]⟩], .bool false]) ∧ Below w.heap.size w w' := by
  have n21 : (a0_2 == 1) = false := by simp; omega
  have n23 : (a0_2 == 3) = false := by simp; omega
  have n24 : (a0_2 == 4) = false := by simp; omega
  have n25 : (a0_2 == 5) = false := by simp; omega
  have n26 : (a0_2 == 6) = false := by simp; omega
  clear ho
  go_enter Try.func25, Try.ntmps25
  go_wp2_with (go_at_call 55; refine (atom_right.calls k 1 a0_1 a0_2 a0_3 a0_4 a0_5 a0_6 A0_7 c0_7 l0_7 A0_8 c0_8 l0_8 true _ (Kd.C_below HR7.out.1 (below_alloc (below_alloc (below_alloc (Below.refl _ _) _) _) _)) HR7.out.2 (Kd.C_below HR8.out.1 (below_alloc (below_alloc (below_alloc (Below.refl _ _) _) _) _)) HR8.out.2 HR.out).mono ?_; rintro e w1 ⟨rfl, hb⟩; have HB : Aside0 (Below w.heap.size w w1) := ⟨below_step (below_alloc (below_alloc (below_alloc (Below.refl _ _) _) _) _) hb⟩; have BK1 : Aside0 (w1.heap[w.heap.size]? = some (.cells #[.int .i64 1, .string a0_1, .int .i64 a0_2, .int .i64 a0_3, .int .i64 a0_4, .float .f64 a0_5, .string a0_6, .slice A0_7 l0_7.length c0_7, .slice A0_8 l0_8.length c0_8] 32 (0, 0))) := ⟨blk_below (blk_alloc (blk_alloc (blk_new _ _) _) _) hb⟩; have BK2 : Aside0 (w1.heap[w.heap.size + 1]? = some (.cells #[.int .i64 0, .int .i64 0, .float .f64 0, .string ⟨#[]⟩] 28 (0, 0))) := ⟨blk_below (blk_alloc (by simpa using blk_new (w.alloc _) _) _) hb⟩; have BK3 : Aside0 (w1.heap[w.heap.size + 1 + 1]? = some (.cells #[.int .i64 0, .int .i64 0, .float .f64 0, .string ⟨#[]⟩] 28 (0, 0))) := ⟨blk_below (by simpa using blk_new ((w.alloc _).alloc _) _) hb⟩; clear hb; obtain ⟨p0, p1, p2, p3, p4, p5, p6, p7, p8⟩ := pcells BK1.out; obtain ⟨l0, l1, l2, l3, f0, f1, f2, f3⟩ := vcells BK2.out; obtain ⟨h0, h1, h2, h3, f4, f5, f6, f7⟩ := vcells BK3.out)
  go_region
  go_wp2
  refine bodyPost_ret (results_list (rs := [.cell 2 28, .cell 3 28, .tmp 4]) rfl (by simp) (.cell (w.heap.size + 1) 28 #[.int .i64 0, .int .i64 0, .float .f64 0, .string ⟨#[]⟩] (0, 0) _ rfl (blk_drew (far4 (put4 BK2.out) (by omega))) Try.underlying28 rfl (by kernel_rfl) (.cell (w.heap.size + 1 + 1) 28 #[.int .i64 0, .int .i64 0, .float .f64 0, .string ⟨#[]⟩] (0, 0) _ rfl (blk_drew (put4 (far4 BK3.out (by omega)))) Try.underlying28 rfl (by kernel_rfl) (.tmp .nil)))) rfl ?_
  exact ⟨rfl, by refine below_drew ?_; (repeat refine below_set ?_ (by omega)); exact HB.out⟩
set_option maxHeartbeats 16000000 in
theorem bounds_none (k : Nat) (a0_1 : ByteArray) (a0_2 : Int) (a0_3 a0_4 : Int) (a0_5 : Nat) (a0_6 : ByteArray) (A0_7 : Option Addr) (c0_7 : Nat) (l0_7 : List S28) (A0_8 : Option Addr) (c0_8 : Nat) (l0_8 : List S32) (w : World) (HR7 : Aside0 (Kd.C k28 w A0_7 l0_7.length l0_7 ∧ l0_7.length ≤ c0_7)) (HR8 : Aside0 (Kd.C k32 w A0_8 l0_8.length l0_8 ∧ l0_8.length ≤ c0_8)) (HR : Aside0 (atom_right.f k 2 a0_1 a0_2 a0_3 a0_4 a0_5 a0_6 l0_7 l0_8 = some true)) (ho : l0_7.length = 0) :
    Calls Try.prog 25 #[.agg #[.int .i64 2, .string a0_1, .int .i64 a0_2, .int .i64 a0_3, .int .i64 a0_4, .float .f64 a0_5, .string a0_6, .slice A0_7 l0_7.length c0_7, .slice A0_8 l0_8.length c0_8]] w fun e w' => e = .returned (.tuple #[.agg #[.int .i64 0, .int .i64 0, .float .f64 0, .string ⟨#[]⟩], .agg #[.int .i64 0, .int .i64 0, .float .f64 0, .string ⟨#[]⟩], .bool false]) ∧ Below w.heap.size w w' := by
  have d0 : decide ((0 : Int) < (l0_7.length : Int)) = false := decide_eq_false (by omega)
  have d1 : decide (0 < l0_7.length) = false := decide_eq_false (by omega)
  replace ho := Aside0.mk ho
  go_enter Try.func25, Try.ntmps25
  go_wp2_with (go_at_call 55; refine (atom_right.calls k 2 a0_1 a0_2 a0_3 a0_4 a0_5 a0_6 A0_7 c0_7 l0_7 A0_8 c0_8 l0_8 true _ (Kd.C_below HR7.out.1 (below_alloc (below_alloc (below_alloc (Below.refl _ _) _) _) _)) HR7.out.2 (Kd.C_below HR8.out.1 (below_alloc (below_alloc (below_alloc (Below.refl _ _) _) _) _)) HR8.out.2 HR.out).mono ?_; rintro e w1 ⟨rfl, hb⟩; have HB : Aside0 (Below w.heap.size w w1) := ⟨below_step (below_alloc (below_alloc (below_alloc (Below.refl _ _) _) _) _) hb⟩; have BK1 : Aside0 (w1.heap[w.heap.size]? = some (.cells #[.int .i64 2, .string a0_1, .int .i64 a0_2, .int .i64 a0_3, .int .i64 a0_4, .float .f64 a0_5, .string a0_6, .slice A0_7 l0_7.length c0_7, .slice A0_8 l0_8.length c0_8] 32 (0, 0))) := ⟨blk_below (blk_alloc (blk_alloc (blk_new _ _) _) _) hb⟩; have BK2 : Aside0 (w1.heap[w.heap.size + 1]? = some (.cells #[.int .i64 0, .int .i64 0, .float .f64 0, .string ⟨#[]⟩] 28 (0, 0))) := ⟨blk_below (blk_alloc (by simpa using blk_new (w.alloc _) _) _) hb⟩; have BK3 : Aside0 (w1.heap[w.heap.size + 1 + 1]? = some (.cells #[.int .i64 0, .int .i64 0, .float .f64 0, .string ⟨#[]⟩] 28 (0, 0))) := ⟨blk_below (by simpa using blk_new ((w.alloc _).alloc _) _) hb⟩; clear hb; obtain ⟨p0, p1, p2, p3, p4, p5, p6, p7, p8⟩ := pcells BK1.out; obtain ⟨l0, l1, l2, l3, f0, f1, f2, f3⟩ := vcells BK2.out; obtain ⟨h0, h1, h2, h3, f4, f5, f6, f7⟩ := vcells BK3.out)
  go_region
  go_wp2
  refine bodyPost_ret (results_list (rs := [.cell 2 28, .cell 3 28, .tmp 4]) rfl (by simp) (.cell (w.heap.size + 1) 28 #[.int .i64 0, .int .i64 0, .float .f64 0, .string ⟨#[]⟩] (0, 0) _ rfl (blk_drew (far4 (put4 BK2.out) (by omega))) Try.underlying28 rfl (by kernel_rfl) (.cell (w.heap.size + 1 + 1) 28 #[.int .i64 0, .int .i64 0, .float .f64 0, .string ⟨#[]⟩] (0, 0) _ rfl (blk_drew (put4 (far4 BK3.out (by omega)))) Try.underlying28 rfl (by kernel_rfl) (.tmp .nil)))) rfl ?_
  exact ⟨rfl, by refine below_drew ?_; (repeat refine below_set ?_ (by omega)); exact HB.out⟩
set_option maxHeartbeats 16000000 in
theorem bounds_between (k : Nat) (a0_1 : ByteArray) (a0_2 : Int) (a0_3 a0_4 : Int) (a0_5 : Nat) (a0_6 : ByteArray) (A0_7 : Option Addr) (c0_7 : Nat) (l0_7 : List S28) (A0_8 : Option Addr) (c0_8 : Nat) (l0_8 : List S32) (w : World) (HR7 : Aside0 (Kd.C k28 w A0_7 l0_7.length l0_7 ∧ l0_7.length ≤ c0_7)) (HR8 : Aside0 (Kd.C k32 w A0_8 l0_8.length l0_8 ∧ l0_8.length ≤ c0_8)) (HR : Aside0 (atom_right.f k 3 a0_1 a0_2 a0_3 a0_4 a0_5 a0_6 l0_7 l0_8 = some true)) (ho : 1 < l0_7.length) :
    Calls Try.prog 25 #[.agg #[.int .i64 3, .string a0_1, .int .i64 a0_2, .int .i64 a0_3, .int .i64 a0_4, .float .f64 a0_5, .string a0_6, .slice A0_7 l0_7.length c0_7, .slice A0_8 l0_8.length c0_8]] w fun e w' => e = .returned (.tuple #[.agg #[.int .i64 (rd_T28 l0_7 0).f0, .int .i64 (rd_T28 l0_7 0).f1, .float .f64 (rd_T28 l0_7 0).f2, .string (rd_T28 l0_7 0).f3], .agg #[.int .i64 (rd_T28 l0_7 1).f0, .int .i64 (rd_T28 l0_7 1).f1, .float .f64 (rd_T28 l0_7 1).f2, .string (rd_T28 l0_7 1).f3], .bool true]) ∧ Below w.heap.size w w' := by
  obtain ⟨ad, ea, x0, x1, x2, x3⟩ := at_T28 HR7.out.1 0 (by omega) (by omega)
  obtain ⟨ad', ea', y0, y1, y2, y3⟩ := at_T28 HR7.out.1 1 (by omega) (by omega)
  subst ea
  obtain rfl := Option.some.inj ea'
  clear ea'
  obtain ⟨c, hc⟩ : ∃ c, c = rd_T28 l0_7 0 := ⟨_, rfl⟩
  obtain ⟨d, hd⟩ : ∃ d, d = rd_T28 l0_7 1 := ⟨_, rfl⟩
  rw [← hc] at x0 x1 x2 x3
  rw [← hd] at y0 y1 y2 y3
  rw [← hc, ← hd]
  have ez : ad.add 0 = ad := rfl
  have e4 : (1 : Int).toNat * 4 = 4 := rfl
  simp only [Int.toNat_zero, Nat.zero_mul, ez] at x0 x1 x2 x3
  rw [e4] at y0 y1 y2 y3
  have e5 : ad.add 4 = ⟨ad.block, ad.off + 4, none⟩ := rfl
  rw [e5] at y0 y1 y2 y3
  clear e5
  have X := Aside0.mk (And.intro x0 (And.intro x1 (And.intro x2 (And.intro x3 (And.intro y0 (And.intro y1 (And.intro y2 y3)))))))
  have q0 : decide (0 < l0_7.length) = true := decide_eq_true (by omega)
  have q1 : decide (1 < l0_7.length) = true := decide_eq_true (by omega)
  have q2 : decide ((0 : Int) < (l0_7.length : Int)) = true := decide_eq_true (by omega)
  have q3 : decide ((1 : Int) < (l0_7.length : Int)) = true := decide_eq_true (by omega)
  have q4 : (0 : Int) < (l0_7.length : Int) := by omega
  have q5 : (1 : Int) < (l0_7.length : Int) := by omega
  have q6 : 0 < l0_7.length := by omega
  clear x0 x1 x2 x3 y0 y1 y2 y3 ez e4
  replace hc := Aside0.mk hc
  replace hd := Aside0.mk hd
  go_enter Try.func25, Try.ntmps25
  go_wp2_with (go_at_call 55; refine (atom_right.calls k 3 a0_1 a0_2 a0_3 a0_4 a0_5 a0_6 (some ad) c0_7 l0_7 A0_8 c0_8 l0_8 true _ (Kd.C_below HR7.out.1 (below_alloc (below_alloc (below_alloc (Below.refl _ _) _) _) _)) HR7.out.2 (Kd.C_below HR8.out.1 (below_alloc (below_alloc (below_alloc (Below.refl _ _) _) _) _)) HR8.out.2 HR.out).mono ?_; rintro e w1 ⟨rfl, hb⟩; have HB : Aside0 (Below w.heap.size w w1) := ⟨below_step (below_alloc (below_alloc (below_alloc (Below.refl _ _) _) _) _) hb⟩; have BK1 : Aside0 (w1.heap[w.heap.size]? = some (.cells #[.int .i64 3, .string a0_1, .int .i64 a0_2, .int .i64 a0_3, .int .i64 a0_4, .float .f64 a0_5, .string a0_6, .slice (some ad) l0_7.length c0_7, .slice A0_8 l0_8.length c0_8] 32 (0, 0))) := ⟨blk_below (blk_alloc (blk_alloc (blk_new _ _) _) _) hb⟩; have BK2 : Aside0 (w1.heap[w.heap.size + 1]? = some (.cells #[.int .i64 0, .int .i64 0, .float .f64 0, .string ⟨#[]⟩] 28 (0, 0))) := ⟨blk_below (blk_alloc (by simpa using blk_new (w.alloc _) _) _) hb⟩; have BK3 : Aside0 (w1.heap[w.heap.size + 1 + 1]? = some (.cells #[.int .i64 0, .int .i64 0, .float .f64 0, .string ⟨#[]⟩] 28 (0, 0))) := ⟨blk_below (by simpa using blk_new ((w.alloc _).alloc _) _) hb⟩; clear hb; obtain ⟨p0, p1, p2, p3, p4, p5, p6, p7, p8⟩ := pcells BK1.out; obtain ⟨l0, l1, l2, l3, f0, f1, f2, f3⟩ := vcells BK2.out; obtain ⟨h0, h1, h2, h3, f4, f5, f6, f7⟩ := vcells BK3.out; have x0 := pw_cell_below HB.out X.out.1; have x1 := pw_cell_below HB.out X.out.2.1; have x2 := pw_cell_below HB.out X.out.2.2.1; have x3 := pw_cell_below HB.out X.out.2.2.2.1; have y0 := pw_cell_below HB.out X.out.2.2.2.2.1; have y1 := pw_cell_below HB.out X.out.2.2.2.2.2.1; have y2 := pw_cell_below HB.out X.out.2.2.2.2.2.2.1; have y3 := pw_cell_below HB.out X.out.2.2.2.2.2.2.2)
  go_region
  go_wp2
  refine bodyPost_ret (results_list (rs := [.cell 2 28, .cell 3 28, .tmp 4]) rfl (by simp) (.cell (w.heap.size + 1) 28 #[.int .i64 c.f0, .int .i64 c.f1, .float .f64 c.f2, .string c.f3] (0, 0) _ rfl (blk_drew (far4 (put4 BK2.out) (by omega))) Try.underlying28 rfl (by kernel_rfl) (.cell (w.heap.size + 1 + 1) 28 #[.int .i64 d.f0, .int .i64 d.f1, .float .f64 d.f2, .string d.f3] (0, 0) _ rfl (blk_drew (put4 (far4 BK3.out (by omega)))) Try.underlying28 rfl (by kernel_rfl) (.tmp .nil)))) rfl ?_
  exact ⟨rfl, by refine below_drew ?_; (repeat refine below_set ?_ (by omega)); exact HB.out⟩
set_option maxHeartbeats 16000000 in
theorem bounds_begins (k : Nat) (a0_1 : ByteArray) (a0_2 : Int) (a0_3 a0_4 : Int) (a0_5 : Nat) (a0_6 : ByteArray) (A0_7 : Option Addr) (c0_7 : Nat) (l0_7 : List S28) (A0_8 : Option Addr) (c0_8 : Nat) (l0_8 : List S32) (w : World) (HR7 : Aside0 (Kd.C k28 w A0_7 l0_7.length l0_7 ∧ l0_7.length ≤ c0_7)) (HR8 : Aside0 (Kd.C k32 w A0_8 l0_8.length l0_8 ∧ l0_8.length ≤ c0_8)) (HR : Aside0 (atom_right.f k 5 a0_1 a0_2 a0_3 a0_4 a0_5 a0_6 l0_7 l0_8 = some true)) :
    Calls Try.prog 25 #[.agg #[.int .i64 5, .string a0_1, .int .i64 a0_2, .int .i64 a0_3, .int .i64 a0_4, .float .f64 a0_5, .string a0_6, .slice A0_7 l0_7.length c0_7, .slice A0_8 l0_8.length c0_8]] w fun e w' => e = .returned (.tuple #[.agg #[.int .i64 a0_3, .int .i64 a0_4, .float .f64 a0_5, .string a0_6], .agg #[.int .i64 0, .int .i64 0, .float .f64 0, .string ⟨#[]⟩], .bool true]) ∧ Below w.heap.size w w' := by
  go_enter Try.func25, Try.ntmps25
  go_wp2_with (go_at_call 55; refine (atom_right.calls k 5 a0_1 a0_2 a0_3 a0_4 a0_5 a0_6 A0_7 c0_7 l0_7 A0_8 c0_8 l0_8 true _ (Kd.C_below HR7.out.1 (below_alloc (below_alloc (below_alloc (Below.refl _ _) _) _) _)) HR7.out.2 (Kd.C_below HR8.out.1 (below_alloc (below_alloc (below_alloc (Below.refl _ _) _) _) _)) HR8.out.2 HR.out).mono ?_; rintro e w1 ⟨rfl, hb⟩; have HB : Aside0 (Below w.heap.size w w1) := ⟨below_step (below_alloc (below_alloc (below_alloc (Below.refl _ _) _) _) _) hb⟩; have BK1 : Aside0 (w1.heap[w.heap.size]? = some (.cells #[.int .i64 5, .string a0_1, .int .i64 a0_2, .int .i64 a0_3, .int .i64 a0_4, .float .f64 a0_5, .string a0_6, .slice A0_7 l0_7.length c0_7, .slice A0_8 l0_8.length c0_8] 32 (0, 0))) := ⟨blk_below (blk_alloc (blk_alloc (blk_new _ _) _) _) hb⟩; have BK2 : Aside0 (w1.heap[w.heap.size + 1]? = some (.cells #[.int .i64 0, .int .i64 0, .float .f64 0, .string ⟨#[]⟩] 28 (0, 0))) := ⟨blk_below (blk_alloc (by simpa using blk_new (w.alloc _) _) _) hb⟩; have BK3 : Aside0 (w1.heap[w.heap.size + 1 + 1]? = some (.cells #[.int .i64 0, .int .i64 0, .float .f64 0, .string ⟨#[]⟩] 28 (0, 0))) := ⟨blk_below (by simpa using blk_new ((w.alloc _).alloc _) _) hb⟩; clear hb; obtain ⟨p0, p1, p2, p3, p4, p5, p6, p7, p8⟩ := pcells BK1.out; obtain ⟨l0, l1, l2, l3, f0, f1, f2, f3⟩ := vcells BK2.out; obtain ⟨h0, h1, h2, h3, f4, f5, f6, f7⟩ := vcells BK3.out)
  go_region
  go_wp2
  refine bodyPost_ret (results_list (rs := [.cell 2 28, .cell 3 28, .tmp 4]) rfl (by simp) (.cell (w.heap.size + 1) 28 #[.int .i64 a0_3, .int .i64 a0_4, .float .f64 a0_5, .string a0_6] (0, 0) _ rfl (blk_drew (far4 (put4 BK2.out) (by omega))) Try.underlying28 rfl (by kernel_rfl) (.cell (w.heap.size + 1 + 1) 28 #[.int .i64 0, .int .i64 0, .float .f64 0, .string ⟨#[]⟩] (0, 0) _ rfl (blk_drew (put4 (far4 BK3.out (by omega)))) Try.underlying28 rfl (by kernel_rfl) (.tmp .nil)))) rfl ?_
  exact ⟨rfl, by refine below_drew ?_; (repeat refine below_set ?_ (by omega)); exact HB.out⟩
set_option maxHeartbeats 16000000 in
theorem bounds_other (k : Nat) (a0_0 : Int) (a0_1 : ByteArray) (a0_2 : Int) (a0_3 a0_4 : Int) (a0_5 : Nat) (a0_6 : ByteArray) (A0_7 : Option Addr) (c0_7 : Nat) (l0_7 : List S28) (A0_8 : Option Addr) (c0_8 : Nat) (l0_8 : List S32) (w : World) (HR7 : Aside0 (Kd.C k28 w A0_7 l0_7.length l0_7 ∧ l0_7.length ≤ c0_7)) (HR8 : Aside0 (Kd.C k32 w A0_8 l0_8.length l0_8 ∧ l0_8.length ≤ c0_8)) (HR : Aside0 (atom_right.f k a0_0 a0_1 a0_2 a0_3 a0_4 a0_5 a0_6 l0_7 l0_8 = some true)) (ho : ¬ (a0_0 = 1 ∨ a0_0 = 2 ∨ a0_0 = 3 ∨ a0_0 = 5)) :
    Calls Try.prog 25 #[.agg #[.int .i64 a0_0, .string a0_1, .int .i64 a0_2, .int .i64 a0_3, .int .i64 a0_4, .float .f64 a0_5, .string a0_6, .slice A0_7 l0_7.length c0_7, .slice A0_8 l0_8.length c0_8]] w fun e w' => e = .returned (.tuple #[.agg #[.int .i64 0, .int .i64 0, .float .f64 0, .string ⟨#[]⟩], .agg #[.int .i64 0, .int .i64 0, .float .f64 0, .string ⟨#[]⟩], .bool false]) ∧ Below w.heap.size w w' := by
  have n01 : (a0_0 == 1) = false := by simp; omega
  have n02 : (a0_0 == 2) = false := by simp; omega
  have n03 : (a0_0 == 3) = false := by simp; omega
  have n05 : (a0_0 == 5) = false := by simp; omega
  clear ho
  go_enter Try.func25, Try.ntmps25
  go_wp2_with (go_at_call 55; refine (atom_right.calls k a0_0 a0_1 a0_2 a0_3 a0_4 a0_5 a0_6 A0_7 c0_7 l0_7 A0_8 c0_8 l0_8 true _ (Kd.C_below HR7.out.1 (below_alloc (below_alloc (below_alloc (Below.refl _ _) _) _) _)) HR7.out.2 (Kd.C_below HR8.out.1 (below_alloc (below_alloc (below_alloc (Below.refl _ _) _) _) _)) HR8.out.2 HR.out).mono ?_; rintro e w1 ⟨rfl, hb⟩; have HB : Aside0 (Below w.heap.size w w1) := ⟨below_step (below_alloc (below_alloc (below_alloc (Below.refl _ _) _) _) _) hb⟩; have BK1 : Aside0 (w1.heap[w.heap.size]? = some (.cells #[.int .i64 a0_0, .string a0_1, .int .i64 a0_2, .int .i64 a0_3, .int .i64 a0_4, .float .f64 a0_5, .string a0_6, .slice A0_7 l0_7.length c0_7, .slice A0_8 l0_8.length c0_8] 32 (0, 0))) := ⟨blk_below (blk_alloc (blk_alloc (blk_new _ _) _) _) hb⟩; have BK2 : Aside0 (w1.heap[w.heap.size + 1]? = some (.cells #[.int .i64 0, .int .i64 0, .float .f64 0, .string ⟨#[]⟩] 28 (0, 0))) := ⟨blk_below (blk_alloc (by simpa using blk_new (w.alloc _) _) _) hb⟩; have BK3 : Aside0 (w1.heap[w.heap.size + 1 + 1]? = some (.cells #[.int .i64 0, .int .i64 0, .float .f64 0, .string ⟨#[]⟩] 28 (0, 0))) := ⟨blk_below (by simpa using blk_new ((w.alloc _).alloc _) _) hb⟩; clear hb; obtain ⟨p0, p1, p2, p3, p4, p5, p6, p7, p8⟩ := pcells BK1.out; obtain ⟨l0, l1, l2, l3, f0, f1, f2, f3⟩ := vcells BK2.out; obtain ⟨h0, h1, h2, h3, f4, f5, f6, f7⟩ := vcells BK3.out)
  go_region
  go_wp2
  refine bodyPost_ret (results_list (rs := [.cell 2 28, .cell 3 28, .tmp 4]) rfl (by simp) (.cell (w.heap.size + 1) 28 #[.int .i64 0, .int .i64 0, .float .f64 0, .string ⟨#[]⟩] (0, 0) _ rfl (blk_drew (far4 (put4 BK2.out) (by omega))) Try.underlying28 rfl (by kernel_rfl) (.cell (w.heap.size + 1 + 1) 28 #[.int .i64 0, .int .i64 0, .float .f64 0, .string ⟨#[]⟩] (0, 0) _ rfl (blk_drew (put4 (far4 BK3.out (by omega)))) Try.underlying28 rfl (by kernel_rfl) (.tmp .nil)))) rfl ?_
  exact ⟨rfl, by refine below_drew ?_; (repeat refine below_set ?_ (by omega)); exact HB.out⟩
set_option maxHeartbeats 16000000 in
theorem bounds_in (k : Nat) (a0_1 : ByteArray) (a0_2 : Int) (a0_3 a0_4 : Int) (a0_5 : Nat) (a0_6 : ByteArray) (A0_7 : Option Addr) (c0_7 : Nat) (l0_7 : List S28) (A0_8 : Option Addr) (c0_8 : Nat) (l0_8 : List S32) (w : World) (HR7 : Aside0 (Kd.C k28 w A0_7 l0_7.length l0_7 ∧ l0_7.length ≤ c0_7)) (HR8 : Aside0 (Kd.C k32 w A0_8 l0_8.length l0_8 ∧ l0_8.length ≤ c0_8)) (HR : Aside0 (atom_right.f k 2 a0_1 a0_2 a0_3 a0_4 a0_5 a0_6 l0_7 l0_8 = some true)) (ho : 0 < l0_7.length) (mn mx_ : S28) (HMn : Aside0 (minCompare.f k l0_7 = some mn)) (HMx : Aside0 (maxCompare.f k l0_7 = some mx_)) :
    Calls Try.prog 25 #[.agg #[.int .i64 2, .string a0_1, .int .i64 a0_2, .int .i64 a0_3, .int .i64 a0_4, .float .f64 a0_5, .string a0_6, .slice A0_7 l0_7.length c0_7, .slice A0_8 l0_8.length c0_8]] w fun e w' => e = .returned (.tuple #[.agg #[.int .i64 mn.f0, .int .i64 mn.f1, .float .f64 mn.f2, .string mn.f3], .agg #[.int .i64 mx_.f0, .int .i64 mx_.f1, .float .f64 mx_.f2, .string mx_.f3], .bool true]) ∧ Below w.heap.size w w' := by
  have d0 : decide ((0 : Int) < (l0_7.length : Int)) = true := decide_eq_true (by omega)
  have d1 : decide (0 < l0_7.length) = true := decide_eq_true (by omega)
  go_enter Try.func25, Try.ntmps25
  go_wp2_with (go_at_call 55; refine (atom_right.calls k 2 a0_1 a0_2 a0_3 a0_4 a0_5 a0_6 A0_7 c0_7 l0_7 A0_8 c0_8 l0_8 true _ (Kd.C_below HR7.out.1 (below_alloc (below_alloc (below_alloc (Below.refl _ _) _) _) _)) HR7.out.2 (Kd.C_below HR8.out.1 (below_alloc (below_alloc (below_alloc (Below.refl _ _) _) _) _)) HR8.out.2 HR.out).mono ?_; rintro e w1 ⟨rfl, hb⟩; have HB : Aside0 (Below w.heap.size w w1) := ⟨below_step (below_alloc (below_alloc (below_alloc (Below.refl _ _) _) _) _) hb⟩; have BK1 : Aside0 (w1.heap[w.heap.size]? = some (.cells #[.int .i64 2, .string a0_1, .int .i64 a0_2, .int .i64 a0_3, .int .i64 a0_4, .float .f64 a0_5, .string a0_6, .slice A0_7 l0_7.length c0_7, .slice A0_8 l0_8.length c0_8] 32 (0, 0))) := ⟨blk_below (blk_alloc (blk_alloc (blk_new _ _) _) _) hb⟩; have BK2 : Aside0 (w1.heap[w.heap.size + 1]? = some (.cells #[.int .i64 0, .int .i64 0, .float .f64 0, .string ⟨#[]⟩] 28 (0, 0))) := ⟨blk_below (blk_alloc (by simpa using blk_new (w.alloc _) _) _) hb⟩; have BK3 : Aside0 (w1.heap[w.heap.size + 1 + 1]? = some (.cells #[.int .i64 0, .int .i64 0, .float .f64 0, .string ⟨#[]⟩] 28 (0, 0))) := ⟨blk_below (by simpa using blk_new ((w.alloc _).alloc _) _) hb⟩; clear hb; obtain ⟨p0, p1, p2, p3, p4, p5, p6, p7, p8⟩ := pcells BK1.out; obtain ⟨l0, l1, l2, l3, f0, f1, f2, f3⟩ := vcells BK2.out; obtain ⟨h0, h1, h2, h3, f4, f5, f6, f7⟩ := vcells BK3.out)
  refine start_ (n := 9) (S := fun w' => w'.cell? ⟨w.heap.size, 7, none⟩ = some (.slice A0_7 l0_7.length c0_7)) (ds := []) #[false, false, false, false, false, false, false, false, false] (by kernel_rfl) rfl rfl p7 (fun hHeld => ?_)
  have n1_ := Aside0.mk (blk_drew BK1.out)
  have n2_ := Aside0.mk (blk_drew BK2.out)
  have n3_ := Aside0.mk (blk_drew BK3.out)
  have n4_ := Aside0.mk (below_drew HB.out)
  clear p0 p1 p2 p3 p4 p5 p6 p7 p8 l0 l1 l2 l3 f0 f1 f2 f3 h0 h1 h2 h3 f4 f5 f6 f7 BK1 BK2 BK3 HB
  have BK1 := n1_
  have BK2 := n2_
  have BK3 := n3_
  have HB := n4_
  clear n1_ n2_ n3_ n4_
  generalize w1.drew = w5 at BK1 BK2 BK3 HB hHeld ⊢
  refine pureP #[true, false, false, false, false, false, false, false, false] (by kernel_rfl) (i := 0) (N := some 40) ?_
  refine takeP #[true, true, false, false, false, false, false, false, false] (by kernel_rfl) hHeld (i := 1) (N := some 41) ?_
  refine pureP #[true, true, false, true, false, false, false, false, false] (by kernel_rfl) (i := 3) (N := some 43) ?_
  refine takeP #[true, true, false, true, true, false, false, false, false] (by kernel_rfl) hHeld (i := 4) (N := some 44) ?_
  refine one_ (i := 2) (N := some 42) #[true, true, true, true, true, false, false, false, false] rfl rfl (by kernel_rfl) (by decide) (fun K hK => ?_)
  refine goes_ Try.func56 (by kernel_rfl) rfl #[.slice A0_7 l0_7.length c0_7, .func (.func 29) #[] #[]] (by rfl) rfl rfl (by (try simp only [List.map_toArray, List.map_cons, List.map_nil]); first | done | rfl) ?_
  refine (minCompare.calls k A0_7 c0_7 l0_7 mn _ (Kd.C_below HR7.out.1 HB.out) HR7.out.2 HMn.out).mono ?_
  rintro e w2 ⟨rfl, hb⟩
  refine ⟨_, rfl, ?_⟩
  have n1_ := Aside0.mk (blk_below BK1.out hb)
  have n2_ := Aside0.mk (blk_below BK2.out hb)
  have n3_ := Aside0.mk (blk_below BK3.out hb)
  have n4_ := Aside0.mk (below_step HB.out hb)
  clear BK1 BK2 BK3 HB
  have BK1 := n1_
  have BK2 := n2_
  have BK3 := n3_
  have HB := n4_
  clear n1_ n2_ n3_ n4_ hb
  refine hK.out _ _ ((blk_cell BK1.out 7).trans rfl) (fun hHeld => ?_)
  clear hK K
  refine norm_ (a' := ?_) ?_ ?_
  rotate_left
  · show Act.put _ (some 42) _ = _
    simp only [Act.put, List.setIfInBounds_toArray, List.set_cons_zero, List.set_cons_succ, i64_w, i32_w]
    rfl
  refine one_ (i := 5) (N := some 45) #[true, true, true, true, true, true, false, false, false] rfl rfl (by kernel_rfl) (by decide) (fun K hK => ?_)
  refine goes_ Try.func57 (by kernel_rfl) rfl #[.slice A0_7 l0_7.length c0_7, .func (.func 29) #[] #[]] (by rfl) rfl rfl (by (try simp only [List.map_toArray, List.map_cons, List.map_nil]); first | done | rfl) ?_
  refine (maxCompare.calls k A0_7 c0_7 l0_7 mx_ _ (Kd.C_below HR7.out.1 HB.out) HR7.out.2 HMx.out).mono ?_
  rintro e w3 ⟨rfl, hb⟩
  refine ⟨_, rfl, ?_⟩
  have n1_ := Aside0.mk (blk_below BK1.out hb)
  have n2_ := Aside0.mk (blk_below BK2.out hb)
  have n3_ := Aside0.mk (blk_below BK3.out hb)
  have n4_ := Aside0.mk (below_step HB.out hb)
  clear BK1 BK2 BK3 HB
  have BK1 := n1_
  have BK2 := n2_
  have BK3 := n3_
  have HB := n4_
  clear n1_ n2_ n3_ n4_ hb
  refine hK.out _ _ ((blk_cell BK1.out 7).trans rfl) (fun hHeld => ?_)
  clear hK K
  refine norm_ (a' := ?_) ?_ ?_
  rotate_left
  · show Act.put _ (some 45) _ = _
    simp only [Act.put, List.setIfInBounds_toArray, List.set_cons_zero, List.set_cons_succ, i64_w, i32_w]
    rfl
  refine one_ (i := 6) (N := none) #[true, true, true, true, true, true, true, false, false] rfl rfl (by kernel_rfl) (by decide) (fun K hK => ?_)
  obtain ⟨l0, l1, l2, l3, f0, f1, f2, f3⟩ := vcells BK2.out
  refine skip_ (w1 := ?w1) (by rfl) rfl ?hrun ?_
  case hrun => go_simp; rfl
  clear l0 l1 l2 l3 f0 f1 f2 f3
  have n1_ := Aside0.mk (far4 (g' := w.heap.size + 1) (y0 := .int .i64 mn.f0) (y1 := .int .i64 mn.f1) (y2 := .float .f64 mn.f2) (y3 := .string mn.f3) BK1.out (by omega))
  have n2_ := Aside0.mk (put4 (y0 := .int .i64 mn.f0) (y1 := .int .i64 mn.f1) (y2 := .float .f64 mn.f2) (y3 := .string mn.f3) BK2.out)
  have n3_ := Aside0.mk (far4 (g' := w.heap.size + 1) (y0 := .int .i64 mn.f0) (y1 := .int .i64 mn.f1) (y2 := .float .f64 mn.f2) (y3 := .string mn.f3) BK3.out (by omega))
  have n4_ := Aside0.mk (show Below w.heap.size w ((((w3.setCell ⟨w.heap.size + 1, 0, none⟩ (.int .i64 mn.f0)).setCell ⟨w.heap.size + 1, 1, none⟩ (.int .i64 mn.f1)).setCell ⟨w.heap.size + 1, 2, none⟩ (.float .f64 mn.f2)).setCell ⟨w.heap.size + 1, 3, none⟩ (.string mn.f3)) by (repeat refine below_set ?_ (by omega)); exact HB.out)
  clear BK1 BK2 BK3 HB
  have BK1 := n1_
  have BK2 := n2_
  have BK3 := n3_
  have HB := n4_
  clear n1_ n2_ n3_ n4_
  generalize ((((w3.setCell ⟨w.heap.size + 1, 0, none⟩ (.int .i64 mn.f0)).setCell ⟨w.heap.size + 1, 1, none⟩ (.int .i64 mn.f1)).setCell ⟨w.heap.size + 1, 2, none⟩ (.float .f64 mn.f2)).setCell ⟨w.heap.size + 1, 3, none⟩ (.string mn.f3)) = w4 at BK1 BK2 BK3 HB ⊢
  refine hK.out _ _ ((blk_cell BK1.out 7).trans rfl) (fun hHeld => ?_)
  clear hK K
  refine one_ (i := 7) (N := none) #[true, true, true, true, true, true, true, true, false] rfl rfl (by kernel_rfl) (by decide) (fun K hK => ?_)
  obtain ⟨l0, l1, l2, l3, f0, f1, f2, f3⟩ := vcells BK3.out
  refine skip_ (w1 := ?w1b) (by rfl) rfl ?hrunb ?_
  case hrunb => go_simp; rfl
  clear l0 l1 l2 l3 f0 f1 f2 f3
  have n1_ := Aside0.mk (far4 (g' := w.heap.size + 1 + 1) (y0 := .int .i64 mx_.f0) (y1 := .int .i64 mx_.f1) (y2 := .float .f64 mx_.f2) (y3 := .string mx_.f3) BK1.out (by omega))
  have n2_ := Aside0.mk (far4 (g' := w.heap.size + 1 + 1) (y0 := .int .i64 mx_.f0) (y1 := .int .i64 mx_.f1) (y2 := .float .f64 mx_.f2) (y3 := .string mx_.f3) BK2.out (by omega))
  have n3_ := Aside0.mk (put4 (y0 := .int .i64 mx_.f0) (y1 := .int .i64 mx_.f1) (y2 := .float .f64 mx_.f2) (y3 := .string mx_.f3) BK3.out)
  have n4_ := Aside0.mk (show Below w.heap.size w ((((w4.setCell ⟨w.heap.size + 1 + 1, 0, none⟩ (.int .i64 mx_.f0)).setCell ⟨w.heap.size + 1 + 1, 1, none⟩ (.int .i64 mx_.f1)).setCell ⟨w.heap.size + 1 + 1, 2, none⟩ (.float .f64 mx_.f2)).setCell ⟨w.heap.size + 1 + 1, 3, none⟩ (.string mx_.f3)) by (repeat refine below_set ?_ (by omega)); exact HB.out)
  clear BK1 BK2 BK3 HB
  have BK1 := n1_
  have BK2 := n2_
  have BK3 := n3_
  have HB := n4_
  clear n1_ n2_ n3_ n4_
  generalize ((((w4.setCell ⟨w.heap.size + 1 + 1, 0, none⟩ (.int .i64 mx_.f0)).setCell ⟨w.heap.size + 1 + 1, 1, none⟩ (.int .i64 mx_.f1)).setCell ⟨w.heap.size + 1 + 1, 2, none⟩ (.float .f64 mx_.f2)).setCell ⟨w.heap.size + 1 + 1, 3, none⟩ (.string mx_.f3)) = w6 at BK1 BK2 BK3 HB ⊢
  refine hK.out _ _ ((blk_cell BK1.out 7).trans rfl) (fun hHeld => ?_)
  clear hK K
  refine pureP #[true, true, true, true, true, true, true, true, true] (by kernel_rfl) (i := 8) (N := some 4) ?_
  refine done_ (by kernel_rfl) ?_
  go_wp2
  refine bodyPost_ret (results_list (rs := [.cell 2 28, .cell 3 28, .tmp 4]) rfl (by simp) (.cell (w.heap.size + 1) 28 #[.int .i64 mn.f0, .int .i64 mn.f1, .float .f64 mn.f2, .string mn.f3] (0, 0) _ rfl BK2.out Try.underlying28 rfl (by kernel_rfl) (.cell (w.heap.size + 1 + 1) 28 #[.int .i64 mx_.f0, .int .i64 mx_.f1, .float .f64 mx_.f2, .string mx_.f3] (0, 0) _ rfl BK3.out Try.underlying28 rfl (by kernel_rfl) (.tmp .nil)))) rfl ?_
  exact ⟨rfl, by (repeat refine below_set ?_ (by omega)); exact HB.out⟩
def atom_Bounds.f (k : Nat) (a0_0 : Int) (a0_1 : ByteArray) (a0_2 a0_3 a0_4 : Int) (a0_5 : Nat) (a0_6 : ByteArray) (l0_7 : List S28) (l0_8 : List S32) : Option (Int × Int × Nat × ByteArray × Int × Int × Nat × ByteArray × Bool) :=
  (atom_right.f k a0_0 a0_1 a0_2 a0_3 a0_4 a0_5 a0_6 l0_7 l0_8).bind fun b => if b = false then some (0, 0, 0, (⟨#[]⟩ : ByteArray), 0, 0, 0, (⟨#[]⟩ : ByteArray), false) else if a0_0 = 1 then (if a0_2 = 1 then some (a0_3, a0_4, a0_5, a0_6, a0_3, a0_4, a0_5, a0_6, true) else if a0_2 = 3 ∨ a0_2 = 4 then some (0, 0, 0, (⟨#[]⟩ : ByteArray), a0_3, a0_4, a0_5, a0_6, true) else if a0_2 = 5 ∨ a0_2 = 6 then some (a0_3, a0_4, a0_5, a0_6, 0, 0, 0, (⟨#[]⟩ : ByteArray), true) else some (0, 0, 0, (⟨#[]⟩ : ByteArray), 0, 0, 0, (⟨#[]⟩ : ByteArray), false)) else if a0_0 = 2 then (if l0_7.length = 0 then some (0, 0, 0, (⟨#[]⟩ : ByteArray), 0, 0, 0, (⟨#[]⟩ : ByteArray), false) else (minCompare.f k l0_7).bind fun mn => (maxCompare.f k l0_7).bind fun mx_ => some (mn.f0, mn.f1, mn.f2, mn.f3, mx_.f0, mx_.f1, mx_.f2, mx_.f3, true)) else if a0_0 = 3 then (if 1 < l0_7.length then some ((rd_T28 l0_7 0).f0, (rd_T28 l0_7 0).f1, (rd_T28 l0_7 0).f2, (rd_T28 l0_7 0).f3, (rd_T28 l0_7 1).f0, (rd_T28 l0_7 1).f1, (rd_T28 l0_7 1).f2, (rd_T28 l0_7 1).f3, true) else none) else if a0_0 = 5 then some (a0_3, a0_4, a0_5, a0_6, 0, 0, 0, (⟨#[]⟩ : ByteArray), true) else some (0, 0, 0, (⟨#[]⟩ : ByteArray), 0, 0, 0, (⟨#[]⟩ : ByteArray), false)
theorem atom_Bounds.mono (a0_0 : Int) (a0_1 : ByteArray) (a0_2 a0_3 a0_4 : Int) (a0_5 : Nat) (a0_6 : ByteArray) (l0_7 : List S28) (l0_8 : List S32) (k : Nat) : LeO (atom_Bounds.f k a0_0 a0_1 a0_2 a0_3 a0_4 a0_5 a0_6 l0_7 l0_8) (atom_Bounds.f (k + 1) a0_0 a0_1 a0_2 a0_3 a0_4 a0_5 a0_6 l0_7 l0_8) := by
  unfold atom_Bounds.f
  exact LeO.bind (atom_right.mono _ _ _ _ _ _ _ _ _ _) (fun b => LeO.ite (LeO.refl _) (LeO.ite (LeO.refl _) (LeO.ite (LeO.ite (LeO.refl _) (LeO.bind (minCompare.mono _ _) (fun mn => LeO.bind (maxCompare.mono _ _) (fun mx_ => LeO.refl _)))) (LeO.refl _))))
theorem atom_Bounds.calls (k : Nat) (a0_0 : Int) (a0_1 : ByteArray) (a0_2 a0_3 a0_4 : Int) (a0_5 : Nat) (a0_6 : ByteArray) (A0_7 : Option Addr) (c0_7 : Nat) (l0_7 : List S28) (A0_8 : Option Addr) (c0_8 : Nat) (l0_8 : List S32) (r1 : Int) (r2 : Int) (r3 : Nat) (r4 : ByteArray) (r5 : Int) (r6 : Int) (r7 : Nat) (r8 : ByteArray) (r9 : Bool) (w : World) (hr0_7 : Kd.C k28 w A0_7 l0_7.length l0_7) (hc0_7 : l0_7.length ≤ c0_7) (hr0_8 : Kd.C k32 w A0_8 l0_8.length l0_8) (hc0_8 : l0_8.length ≤ c0_8) (h : atom_Bounds.f k a0_0 a0_1 a0_2 a0_3 a0_4 a0_5 a0_6 l0_7 l0_8 = some (r1, r2, r3, r4, r5, r6, r7, r8, r9)) :
    Calls Try.prog 25 #[.agg #[.int .i64 a0_0, .string a0_1, .int .i64 a0_2, .int .i64 a0_3, .int .i64 a0_4, .float .f64 a0_5, .string a0_6, .slice A0_7 l0_7.length c0_7, .slice A0_8 l0_8.length c0_8]] w fun e w' => e = .returned (.tuple #[.agg #[.int .i64 r1, .int .i64 r2, .float .f64 r3, .string r4], .agg #[.int .i64 r5, .int .i64 r6, .float .f64 r7, .string r8], .bool r9]) ∧ Below w.heap.size w w' := by
  unfold atom_Bounds.f at h
  obtain ⟨b, hb, h2⟩ := Option.bind_eq_some_iff.1 h
  clear h
  have h := h2
  clear h2
  cases b
  · rw [if_pos rfl] at h
    simp only [Option.some.injEq, Prod.mk.injEq] at h; obtain ⟨rfl, rfl, rfl, rfl, rfl, rfl, rfl, rfl, rfl⟩ := h; exact bounds_no k a0_0 a0_1 a0_2 a0_3 a0_4 a0_5 a0_6 A0_7 c0_7 l0_7 A0_8 c0_8 l0_8 w ⟨hr0_7, hc0_7⟩ ⟨hr0_8, hc0_8⟩ ⟨hb⟩
  rw [if_neg (by decide)] at h
  by_cases k1 : a0_0 = 1
  · rw [if_pos k1] at h
    subst k1
    by_cases o1 : a0_2 = 1
    · rw [if_pos o1] at h
      subst o1; simp only [Option.some.injEq, Prod.mk.injEq] at h; obtain ⟨rfl, rfl, rfl, rfl, rfl, rfl, rfl, rfl, rfl⟩ := h; exact bounds_eq k a0_1 a0_3 a0_4 a0_5 a0_6 A0_7 c0_7 l0_7 A0_8 c0_8 l0_8 w ⟨hr0_7, hc0_7⟩ ⟨hr0_8, hc0_8⟩ ⟨hb⟩
    rw [if_neg o1] at h
    by_cases o3 : a0_2 = 3 ∨ a0_2 = 4
    · rw [if_pos o3] at h
      simp only [Option.some.injEq, Prod.mk.injEq] at h; obtain ⟨rfl, rfl, rfl, rfl, rfl, rfl, rfl, rfl, rfl⟩ := h
      rcases o3 with rfl | rfl
      · exact bounds_lt k a0_1 a0_3 a0_4 a0_5 a0_6 A0_7 c0_7 l0_7 A0_8 c0_8 l0_8 w ⟨hr0_7, hc0_7⟩ ⟨hr0_8, hc0_8⟩ ⟨hb⟩
      · exact bounds_le k a0_1 a0_3 a0_4 a0_5 a0_6 A0_7 c0_7 l0_7 A0_8 c0_8 l0_8 w ⟨hr0_7, hc0_7⟩ ⟨hr0_8, hc0_8⟩ ⟨hb⟩
    rw [if_neg o3] at h
    by_cases o5 : a0_2 = 5 ∨ a0_2 = 6
    · rw [if_pos o5] at h
      simp only [Option.some.injEq, Prod.mk.injEq] at h; obtain ⟨rfl, rfl, rfl, rfl, rfl, rfl, rfl, rfl, rfl⟩ := h
      rcases o5 with rfl | rfl
      · exact bounds_gt k a0_1 a0_3 a0_4 a0_5 a0_6 A0_7 c0_7 l0_7 A0_8 c0_8 l0_8 w ⟨hr0_7, hc0_7⟩ ⟨hr0_8, hc0_8⟩ ⟨hb⟩
      · exact bounds_ge k a0_1 a0_3 a0_4 a0_5 a0_6 A0_7 c0_7 l0_7 A0_8 c0_8 l0_8 w ⟨hr0_7, hc0_7⟩ ⟨hr0_8, hc0_8⟩ ⟨hb⟩
    rw [if_neg o5] at h
    simp only [Option.some.injEq, Prod.mk.injEq] at h; obtain ⟨rfl, rfl, rfl, rfl, rfl, rfl, rfl, rfl, rfl⟩ := h; exact bounds_ne k a0_1 a0_2 a0_3 a0_4 a0_5 a0_6 A0_7 c0_7 l0_7 A0_8 c0_8 l0_8 w ⟨hr0_7, hc0_7⟩ ⟨hr0_8, hc0_8⟩ ⟨hb⟩ (by omega)
  rw [if_neg k1] at h
  by_cases k2 : a0_0 = 2
  · rw [if_pos k2] at h
    subst k2
    by_cases hl : l0_7.length = 0
    · rw [if_pos hl] at h
      simp only [Option.some.injEq, Prod.mk.injEq] at h; obtain ⟨rfl, rfl, rfl, rfl, rfl, rfl, rfl, rfl, rfl⟩ := h; exact bounds_none k a0_1 a0_2 a0_3 a0_4 a0_5 a0_6 A0_7 c0_7 l0_7 A0_8 c0_8 l0_8 w ⟨hr0_7, hc0_7⟩ ⟨hr0_8, hc0_8⟩ ⟨hb⟩ hl
    rw [if_neg hl] at h
    obtain ⟨mn, hmn, h2⟩ := Option.bind_eq_some_iff.1 h
    clear h
    obtain ⟨mx_, hmx, h⟩ := Option.bind_eq_some_iff.1 h2
    clear h2
    simp only [Option.some.injEq, Prod.mk.injEq] at h; obtain ⟨rfl, rfl, rfl, rfl, rfl, rfl, rfl, rfl, rfl⟩ := h; exact bounds_in k a0_1 a0_2 a0_3 a0_4 a0_5 a0_6 A0_7 c0_7 l0_7 A0_8 c0_8 l0_8 w ⟨hr0_7, hc0_7⟩ ⟨hr0_8, hc0_8⟩ ⟨hb⟩ (by omega) mn mx_ ⟨hmn⟩ ⟨hmx⟩
  rw [if_neg k2] at h
  by_cases k3 : a0_0 = 3
  · rw [if_pos k3] at h
    subst k3
    by_cases hl : 1 < l0_7.length
    · rw [if_pos hl] at h
      simp only [Option.some.injEq, Prod.mk.injEq] at h; obtain ⟨rfl, rfl, rfl, rfl, rfl, rfl, rfl, rfl, rfl⟩ := h; exact bounds_between k a0_1 a0_2 a0_3 a0_4 a0_5 a0_6 A0_7 c0_7 l0_7 A0_8 c0_8 l0_8 w ⟨hr0_7, hc0_7⟩ ⟨hr0_8, hc0_8⟩ ⟨hb⟩ hl
    · rw [if_neg hl] at h
      cases h
  rw [if_neg k3] at h
  by_cases k5 : a0_0 = 5
  · rw [if_pos k5] at h
    subst k5
    simp only [Option.some.injEq, Prod.mk.injEq] at h; obtain ⟨rfl, rfl, rfl, rfl, rfl, rfl, rfl, rfl, rfl⟩ := h; exact bounds_begins k a0_1 a0_2 a0_3 a0_4 a0_5 a0_6 A0_7 c0_7 l0_7 A0_8 c0_8 l0_8 w ⟨hr0_7, hc0_7⟩ ⟨hr0_8, hc0_8⟩ ⟨hb⟩
  rw [if_neg k5] at h
  simp only [Option.some.injEq, Prod.mk.injEq] at h; obtain ⟨rfl, rfl, rfl, rfl, rfl, rfl, rfl, rfl, rfl⟩ := h; exact bounds_other k a0_0 a0_1 a0_2 a0_3 a0_4 a0_5 a0_6 A0_7 c0_7 l0_7 A0_8 c0_8 l0_8 w ⟨hr0_7, hc0_7⟩ ⟨hr0_8, hc0_8⟩ ⟨hb⟩ (by omega)
end Go.Proofs.Ytkedejphebfneaa.Pa
end
