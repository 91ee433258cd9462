/- The texts of AtomBounded, merged: part 18. -/
import Derived.Test.YtkedejphebfneaaQAtomBounded14
import Derived.Test.YtkedejphebfneaaQAtomBounded16
import Derived.Test.YtkedejphebfneaaQAtomBounded17
import Derived.RegionTactic
import Derived.ChangeAlike
/- atom.Bounds, its walk by hand. -/
namespace Go.Proofs.Ytkedejphebfneaa.Pa
open Go.Proofs.Ytkedejphebfneaa.L Go.RowKit Go.Proofs.YtkedejphebfneaaW.PrintWords Go.Proofs.YtkedejphebfneaaW.PrintLast Go.Proofs.YtkedejphebfneaaW.PrintMore
set_option linter.unusedVariables false
set_option linter.unusedSimpArgs false
attribute [local go_sem] run_store_float cmp_feq cmp_fne cmp_flt cmp_fle cmp_fgt cmp_fge un_fneg equalIn_feq run_fop run_fint run_freal cmp_sgt
theorem vcells {W : World} {g : Nat} {t : TypeId} {v0 v1 v2 v3 : Value} (h : W.heap[g]? = some (.cells #[v0, v1, v2, v3] t (0, 0))) :
  W.cell? ⟨g, 0, none⟩ = some v0 ∧ W.cell? ⟨g, 1, none⟩ = some v1 ∧ W.cell? ⟨g, 2, none⟩ = some v2 ∧ W.cell? ⟨g, 3, none⟩ = some v3 ∧ W.frozen? ⟨g, 0, none⟩ = false ∧ W.frozen? ⟨g, 1, none⟩ = false ∧ W.frozen? ⟨g, 2, none⟩ = false ∧ W.frozen? ⟨g, 3, none⟩ = false :=
 ⟨(blk_cell h 0).trans rfl, (blk_cell h 1).trans rfl, (blk_cell h 2).trans rfl, (blk_cell h 3).trans rfl, blk_frozen h 0, blk_frozen h 1, blk_frozen h 2, blk_frozen h 3⟩
theorem put4 {W : World} {g : Nat} {t : TypeId} {x0 x1 x2 x3 y0 y1 y2 y3 : Value} (h : W.heap[g]? = some (.cells #[x0, x1, x2, x3] t (0, 0))) : ((((W.setCell ⟨g, 0, none⟩ y0).setCell ⟨g, 1, none⟩ y1).setCell ⟨g, 2, none⟩ y2).setCell ⟨g, 3, none⟩ y3).heap[g]? = some (.cells #[y0, y1, y2, y3] t (0, 0)) :=
 blk_put (cs := #[y0, y1, y2, x3]) (blk_put (cs := #[y0, y1, x2, x3]) (blk_put (cs := #[y0, x1, x2, x3]) (blk_put (cs := #[x0, x1, x2, x3]) h 0 y0 rfl) 1 y1 rfl) 2 y2 rfl) 3 y3 rfl
theorem far4 {W : World} {g g' : Nat} {o : Obj} {y0 y1 y2 y3 : Value} (h : W.heap[g]? = some o) (hne : g ≠ g') : ((((W.setCell ⟨g', 0, none⟩ y0).setCell ⟨g', 1, none⟩ y1).setCell ⟨g', 2, none⟩ y2).setCell ⟨g', 3, none⟩ y3).heap[g]? = some o := by
 rw [Below.heap_setCell _ _ _ _ hne, Below.heap_setCell _ _ _ _ hne, Below.heap_setCell _ _ _ _ hne, Below.heap_setCell _ _ _ _ hne]; exact h
set_option maxHeartbeats 16000000 in
theorem bounds_no (k : Nat) (a0_0 : Int) (a0_1 : ByteArray) (a0_2 : Int) (a0_3 a0_4 : Int) (a0_5 : Nat) (a0_6 : ByteArray) (A0_7 : Option Addr) (c0_7 : Nat) (l0_7 : List S28) (A0_8 : Option Addr) (c0_8 : Nat) (l0_8 : List S32) (w : World) (HR7 : Aside0 (Kd.C k28 w A0_7 l0_7.length l0_7 ∧ l0_7.length ≤ c0_7)) (HR8 : Aside0 (Kd.C k32 w A0_8 l0_8.length l0_8 ∧ l0_8.length ≤ c0_8)) (HR : Aside0 (atom_right.f k a0_0 a0_1 a0_2 a0_3 a0_4 a0_5 a0_6 l0_7 l0_8 = some false)) :
  Calls Try.prog 25 #[.agg #[.int .i64 a0_0, .string a0_1, .int .i64 a0_2, .int .i64 a0_3, .int .i64 a0_4, .float .f64 a0_5, .string a0_6, .slice A0_7 l0_7.length c0_7, .slice A0_8 l0_8.length c0_8]] w fun e w' => e = .returned (.tuple #[.agg #[.int .i64 0, .int .i64 0, .float .f64 0, .string ⟨#[]⟩], .agg #[.int .i64 0, .int .i64 0, .float .f64 0, .string ⟨#[]⟩], .bool false]) ∧ Below w.heap.size w w' := by
 go_enter Try.func25, Try.ntmps25
 go_wp2_with (go_at_call 55; refine (atom_right.calls k a0_0 a0_1 a0_2 a0_3 a0_4 a0_5 a0_6 A0_7 c0_7 l0_7 A0_8 c0_8 l0_8 false _ (Kd.C_below HR7.out.1 (below_alloc (below_alloc (below_alloc (Below.refl _ _) _) _) _)) HR7.out.2 (Kd.C_below HR8.out.1 (below_alloc (below_alloc (below_alloc (Below.refl _ _) _) _) _)) HR8.out.2 HR.out).mono ?_; rintro e w1 ⟨rfl, hb⟩; have HB : Aside0 (Below w.heap.size w w1) := ⟨below_step (below_alloc (below_alloc (below_alloc (Below.refl _ _) _) _) _) hb⟩; have BK1 : Aside0 (w1.heap[w.heap.size]? = some (.cells #[.int .i64 a0_0, .string a0_1, .int .i64 a0_2, .int .i64 a0_3, .int .i64 a0_4, .float .f64 a0_5, .string a0_6, .slice A0_7 l0_7.length c0_7, .slice A0_8 l0_8.length c0_8] 32 (0, 0))) := ⟨blk_below (blk_alloc (blk_alloc (blk_new _ _) _) _) hb⟩; have BK2 : Aside0 (w1.heap[w.heap.size + 1]? = some (.cells #[.int .i64 0, .int .i64 0, .float .f64 0, .string ⟨#[]⟩] 28 (0, 0))) := ⟨blk_below (blk_alloc (by simpa using blk_new (w.alloc _) _) _) hb⟩; have BK3 : Aside0 (w1.heap[w.heap.size + 1 + 1]? = some (.cells #[.int .i64 0, .int .i64 0, .float .f64 0, .string ⟨#[]⟩] 28 (0, 0))) := ⟨blk_below (by simpa using blk_new ((w.alloc _).alloc _) _) hb⟩; clear hb; obtain ⟨p0, p1, p2, p3, p4, p5, p6, p7, p8⟩ := pcells BK1.out; obtain ⟨l0, l1, l2, l3, f0, f1, f2, f3⟩ := vcells BK2.out; obtain ⟨h0, h1, h2, h3, f4, f5, f6, f7⟩ := vcells BK3.out)
 go_region
 go_wp2
 refine bodyPost_ret (results_list (rs := [.cell 2 28, .cell 3 28, .tmp 4]) rfl (by simp) (.cell (w.heap.size + 1) 28 #[.int .i64 0, .int .i64 0, .float .f64 0, .string ⟨#[]⟩] (0, 0) _ rfl (blk_drew (far4 (put4 BK2.out) (by omega))) Try.underlying28 rfl (by kernel_rfl) (.cell (w.heap.size + 1 + 1) 28 #[.int .i64 0, .int .i64 0, .float .f64 0, .string ⟨#[]⟩] (0, 0) _ rfl (blk_drew (put4 (far4 BK3.out (by omega)))) Try.underlying28 rfl (by kernel_rfl) (.tmp .nil)))) rfl ?_
 exact ⟨rfl, by refine below_drew ?_; (repeat refine below_set ?_ (by omega)); exact HB.out⟩
set_option maxHeartbeats 16000000 in
theorem bounds_eq (k : Nat) (a0_1 : ByteArray) (a0_3 a0_4 : Int) (a0_5 : Nat) (a0_6 : ByteArray) (A0_7 : Option Addr) (c0_7 : Nat) (l0_7 : List S28) (A0_8 : Option Addr) (c0_8 : Nat) (l0_8 : List S32) (w : World) (HR7 : Aside0 (Kd.C k28 w A0_7 l0_7.length l0_7 ∧ l0_7.length ≤ c0_7)) (HR8 : Aside0 (Kd.C k32 w A0_8 l0_8.length l0_8 ∧ l0_8.length ≤ c0_8)) (HR : Aside0 (atom_right.f k 1 a0_1 1 a0_3 a0_4 a0_5 a0_6 l0_7 l0_8 = some true)) :
  Calls Try.prog 25 #[.agg #[.int .i64 1, .string a0_1, .int .i64 1, .int .i64 a0_3, .int .i64 a0_4, .float .f64 a0_5, .string a0_6, .slice A0_7 l0_7.length c0_7, .slice A0_8 l0_8.length c0_8]] w fun e w' => e = .returned (.tuple #[.agg #[.int .i64 a0_3, .int .i64 a0_4, .float .f64 a0_5, .string a0_6], .agg #[.int .i64 a0_3, .int .i64 a0_4, .float .f64 a0_5, .string a0_6], .bool true]) ∧ Below w.heap.size w w' := by
 go_enter Try.func25, Try.ntmps25
 go_wp2_with (go_at_call 55; refine (atom_right.calls k 1 a0_1 1 a0_3 a0_4 a0_5 a0_6 A0_7 c0_7 l0_7 A0_8 c0_8 l0_8 true _ (Kd.C_below HR7.out.1 (below_alloc (below_alloc (below_alloc (Below.refl _ _) _) _) _)) HR7.out.2 (Kd.C_below HR8.out.1 (below_alloc (below_alloc (below_alloc (Below.refl _ _) _) _) _)) HR8.out.2 HR.out).mono ?_; rintro e w1 ⟨rfl, hb⟩; have HB : Aside0 (Below w.heap.size w w1) := ⟨below_step (below_alloc (below_alloc (below_alloc (Below.refl _ _) _) _) _) hb⟩; have BK1 : Aside0 (w1.heap[w.heap.size]? = some (.cells #[.int .i64 1, .string a0_1, .int .i64 1, .int .i64 a0_3, .int .i64 a0_4, .float .f64 a0_5, .string a0_6, .slice A0_7 l0_7.length c0_7, .slice A0_8 l0_8.length c0_8] 32 (0, 0))) := ⟨blk_below (blk_alloc (blk_alloc (blk_new _ _) _) _) hb⟩; have BK2 : Aside0 (w1.heap[w.heap.size + 1]? = some (.cells #[.int .i64 0, .int .i64 0, .float .f64 0, .string ⟨#[]⟩] 28 (0, 0))) := ⟨blk_below (blk_alloc (by simpa using blk_new (w.alloc _) _) _) hb⟩; have BK3 : Aside0 (w1.heap[w.heap.size + 1 + 1]? = some (.cells #[.int .i64 0, .int .i64 0, .float .f64 0, .string ⟨#[]⟩] 28 (0, 0))) := ⟨blk_below (by simpa using blk_new ((w.alloc _).alloc _) _) hb⟩; clear hb; obtain ⟨p0, p1, p2, p3, p4, p5, p6, p7, p8⟩ := pcells BK1.out; obtain ⟨l0, l1, l2, l3, f0, f1, f2, f3⟩ := vcells BK2.out; obtain ⟨h0, h1, h2, h3, f4, f5, f6, f7⟩ := vcells BK3.out)
 go_region
 go_wp2
 refine bodyPost_ret (results_list (rs := [.cell 2 28, .cell 3 28, .tmp 4]) rfl (by simp) (.cell (w.heap.size + 1) 28 #[.int .i64 a0_3, .int .i64 a0_4, .float .f64 a0_5, .string a0_6] (0, 0) _ rfl (blk_drew (far4 (put4 BK2.out) (by omega))) Try.underlying28 rfl (by kernel_rfl) (.cell (w.heap.size + 1 + 1) 28 #[.int .i64 a0_3, .int .i64 a0_4, .float .f64 a0_5, .string a0_6] (0, 0) _ rfl (blk_drew (put4 (far4 BK3.out (by omega)))) Try.underlying28 rfl (by kernel_rfl) (.tmp .nil)))) rfl ?_
 exact ⟨rfl, by refine below_drew ?_; (repeat refine below_set ?_ (by omega)); exact HB.out⟩
set_option maxHeartbeats 16000000 in
theorem bounds_lt (k : Nat) (a0_1 : ByteArray) (a0_3 a0_4 : Int) (a0_5 : Nat) (a0_6 : ByteArray) (A0_7 : Option Addr) (c0_7 : Nat) (l0_7 : List S28) (A0_8 : Option Addr) (c0_8 : Nat) (l0_8 : List S32) (w : World) (HR7 : Aside0 (Kd.C k28 w A0_7 l0_7.length l0_7 ∧ l0_7.length ≤ c0_7)) (HR8 : Aside0 (Kd.C k32 w A0_8 l0_8.length l0_8 ∧ l0_8.length ≤ c0_8)) (HR : Aside0 (atom_right.f k 1 a0_1 3 a0_3 a0_4 a0_5 a0_6 l0_7 l0_8 = some true)) :
  Calls Try.prog 25 #[.agg #[.int .i64 1, .string a0_1, .int .i64 3, .int .i64 a0_3, .int .i64 a0_4, .float .f64 a0_5, .string a0_6, .slice A0_7 l0_7.length c0_7, .slice A0_8 l0_8.length c0_8]] w fun e w' => e = .returned (.tuple #[.agg #[.int .i64 0, .int .i64 0, .float .f64 0, .string ⟨#[]⟩], .agg #[.int .i64 a0_3, .int .i64 a0_4, .float .f64 a0_5, .string a0_6], .bool true]) ∧ Below w.heap.size w w' := by
 go_enter Try.func25, Try.ntmps25
 go_wp2_with (go_at_call 55; refine (atom_right.calls k 1 a0_1 3 a0_3 a0_4 a0_5 a0_6 A0_7 c0_7 l0_7 A0_8 c0_8 l0_8 true _ (Kd.C_below HR7.out.1 (below_alloc (below_alloc (below_alloc (Below.refl _ _) _) _) _)) HR7.out.2 (Kd.C_below HR8.out.1 (below_alloc (below_alloc (below_alloc (Below.refl _ _) _) _) _)) HR8.out.2 HR.out).mono ?_; rintro e w1 ⟨rfl, hb⟩; have HB : Aside0 (Below w.heap.size w w1) := ⟨below_step (below_alloc (below_alloc (below_alloc (Below.refl _ _) _) _) _) hb⟩; have BK1 : Aside0 (w1.heap[w.heap.size]? = some (.cells #[.int .i64 1, .string a0_1, .int .i64 3, .int .i64 a0_3, .int .i64 a0_4, .float .f64 a0_5, .string a0_6, .slice A0_7 l0_7.length c0_7, .slice A0_8 l0_8.length c0_8] 32 (0, 0))) := ⟨blk_below (blk_alloc (blk_alloc (blk_new _ _) _) _) hb⟩; have BK2 : Aside0 (w1.heap[w.heap.size + 1]? = some (.cells #[.int .i64 0, .int .i64 0, .float .f64 0, .string ⟨#[]⟩] 28 (0, 0))) := ⟨blk_below (blk_alloc (by simpa using blk_new (w.alloc _) _) _) hb⟩; have BK3 : Aside0 (w1.heap[w.heap.size + 1 + 1]? = some (.cells #[.int .i64 0, .int .i64 0, .float .f64 0, .string ⟨#[]⟩] 28 (0, 0))) := ⟨blk_below (by simpa using blk_new ((w.alloc _).alloc _) _) hb⟩; clear hb; obtain ⟨p0, p1, p2, p3, p4, p5, p6, p7, p8⟩ := pcells BK1.out; obtain ⟨l0, l1, l2, l3, f0, f1, f2, f3⟩ := vcells BK2.out; obtain ⟨h0, h1, h2, h3, f4, f5, f6, f7⟩ := vcells BK3.out)
 go_region
 go_wp2
 refine bodyPost_ret (results_list (rs := [.cell 2 28, .cell 3 28, .tmp 4]) rfl (by simp) (.cell (w.heap.size + 1) 28 #[.int .i64 0, .int .i64 0, .float .f64 0, .string ⟨#[]⟩] (0, 0) _ rfl (blk_drew (far4 (put4 BK2.out) (by omega))) Try.underlying28 rfl (by kernel_rfl) (.cell (w.heap.size + 1 + 1) 28 #[.int .i64 a0_3, .int .i64 a0_4, .float .f64 a0_5, .string a0_6] (0, 0) _ rfl (blk_drew (put4 (far4 BK3.out (by omega)))) Try.underlying28 rfl (by kernel_rfl) (.tmp .nil)))) rfl ?_
 exact ⟨rfl, by refine below_drew ?_; (repeat refine below_set ?_ (by omega)); exact HB.out⟩
set_option maxHeartbeats 16000000 in
theorem bounds_le (k : Nat) (a0_1 : ByteArray) (a0_3 a0_4 : Int) (a0_5 : Nat) (a0_6 : ByteArray) (A0_7 : Option Addr) (c0_7 : Nat) (l0_7 : List S28) (A0_8 : Option Addr) (c0_8 : Nat) (l0_8 : List S32) (w : World) (HR7 : Aside0 (Kd.C k28 w A0_7 l0_7.length l0_7 ∧ l0_7.length ≤ c0_7)) (HR8 : Aside0 (Kd.C k32 w A0_8 l0_8.length l0_8 ∧ l0_8.length ≤ c0_8)) (HR : Aside0 (atom_right.f k 1 a0_1 4 a0_3 a0_4 a0_5 a0_6 l0_7 l0_8 = some true)) :
  Calls Try.prog 25 #[.agg #[.int .i64 1, .string a0_1, .int .i64 4, .int .i64 a0_3, .int .i64 a0_4, .float .f64 a0_5, .string a0_6, .slice A0_7 l0_7.length c0_7, .slice A0_8 l0_8.length c0_8]] w fun e w' => e = .returned (.tuple #[.agg #[.int .i64 0, .int .i64 0, .float .f64 0, .string ⟨#[]⟩], .agg #[.int .i64 a0_3, .int .i64 a0_4, .float .f64 a0_5, .string a0_6], .bool true]) ∧ Below w.heap.size w w' := by
 go_enter Try.func25, Try.ntmps25
 go_wp2_with (go_at_call 55; refine (atom_right.calls k 1 a0_1 4 a0_3 a0_4 a0_5 a0_6 A0_7 c0_7 l0_7 A0_8 c0_8 l0_8 true _ (Kd.C_below HR7.out.1 (below_alloc (below_alloc (below_alloc (Below.refl _ _) _) _) _)) HR7.out.2 (Kd.C_below HR8.out.1 (below_alloc (below_alloc (below_alloc (Below.refl _ _) _) _) _)) HR8.out.2 HR.out).mono ?_; rintro e w1 ⟨rfl, hb⟩; have HB : Aside0 (Below w.heap.size w w1) := ⟨below_step (below_alloc (below_alloc (below_alloc (Below.refl _ _) _) _) _) hb⟩; have BK1 : Aside0 (w1.heap[w.heap.size]? = some (.cells #[.int .i64 1, .string a0_1, .int .i64 4, .int .i64 a0_3, .int .i64 a0_4, .float .f64 a0_5, .string a0_6, .slice A0_7 l0_7.length c0_7, .slice A0_8 l0_8.length c0_8] 32 (0, 0))) := ⟨blk_below (blk_alloc (blk_alloc (blk_new _ _) _) _) hb⟩; have BK2 : Aside0 (w1.heap[w.heap.size + 1]? = some (.cells #[.int .i64 0, .int .i64 0, .float .f64 0, .string ⟨#[]⟩] 28 (0, 0))) := ⟨blk_below (blk_alloc (by simpa using blk_new (w.alloc _) _) _) hb⟩; have BK3 : Aside0 (w1.heap[w.heap.size + 1 + 1]? = some (.cells #[.int .i64 0, .int .i64 0, .float .f64 0, .string ⟨#[]⟩] 28 (0, 0))) := ⟨blk_below (by simpa using blk_new ((w.alloc _).alloc _) _) hb⟩; clear hb; obtain ⟨p0, p1, p2, p3, p4, p5, p6, p7, p8⟩ := pcells BK1.out; obtain ⟨l0, l1, l2, l3, f0, f1, f2, f3⟩ := vcells BK2.out; obtain ⟨h0, h1, h2, h3, f4, f5, f6, f7⟩ := vcells BK3.out)
 go_region
 go_wp2
 refine bodyPost_ret (results_list (rs := [.cell 2 28, .cell 3 28, .tmp 4]) rfl (by simp) (.cell (w.heap.size + 1) 28 #[.int .i64 0, .int .i64 0, .float .f64 0, .string ⟨#[]⟩] (0, 0) _ rfl (blk_drew (far4 (put4 BK2.out) (by omega))) Try.underlying28 rfl (by kernel_rfl) (.cell (w.heap.size + 1 + 1) 28 #[.int .i64 a0_3, .int .i64 a0_4, .float .f64 a0_5, .string a0_6] (0, 0) _ rfl (blk_drew (put4 (far4 BK3.out (by omega)))) Try.underlying28 rfl (by kernel_rfl) (.tmp .nil)))) rfl ?_
 exact ⟨rfl, by refine below_drew ?_; (repeat refine below_set ?_ (by omega)); exact HB.out⟩
set_option maxHeartbeats 16000000 in
theorem bounds_gt (k : Nat) (a0_1 : ByteArray) (a0_3 a0_4 : Int) (a0_5 : Nat) (a0_6 : ByteArray) (A0_7 : Option Addr) (c0_7 : Nat) (l0_7 : List S28) (A0_8 : Option Addr) (c0_8 : Nat) (l0_8 : List S32) (w : World) (HR7 : Aside0 (Kd.C k28 w A0_7 l0_7.length l0_7 ∧ l0_7.length ≤ c0_7)) (HR8 : Aside0 (Kd.C k32 w A0_8 l0_8.length l0_8 ∧ l0_8.length ≤ c0_8)) (HR : Aside0 (atom_right.f k 1 a0_1 5 a0_3 a0_4 a0_5 a0_6 l0_7 l0_8 = some true)) :
  Calls Try.prog 25 #[.agg #[.int .i64 1, .string a0_1, .int .i64 5, .int .i64 a0_3, .int .i64 a0_4, .float .f64 a0_5, .string a0_6, .slice A0_7 l0_7.length c0_7, .slice A0_8 l0_8.length c0_8]] w fun e w' => e = .returned (.tuple #[.agg #[.int .i64 a0_3, .int .i64 a0_4, .float .f64 a0_5, .string a0_6], .agg #[.int .i64 0, .int .i64 0, .float .f64 0, .string ⟨#[]⟩], .bool true]) ∧ Below w.heap.size w w' := by
 go_enter Try.func25, Try.ntmps25
 go_wp2_with (go_at_call 55; refine (atom_right.calls k 1 a0_1 5 a0_3 a0_4 a0_5 a0_6 A0_7 c0_7 l0_7 A0_8 c0_8 l0_8 true _ (Kd.C_below HR7.out.1 (below_alloc (below_alloc (below_alloc (Below.refl _ _) _) _) _)) HR7.out.2 (Kd.C_below HR8.out.1 (below_alloc (below_alloc (below_alloc (Below.refl _ _) _) _) _)) HR8.out.2 HR.out).mono ?_; rintro e w1 ⟨rfl, hb⟩; have HB : Aside0 (Below w.heap.size w w1) := ⟨below_step (below_alloc (below_alloc (below_alloc (Below.refl _ _) _) _) _) hb⟩; have BK1 : Aside0 (w1.heap[w.heap.size]? = some (.cells #[.int .i64 1, .string a0_1, .int .i64 5, .int .i64 a0_3, .int .i64 a0_4, .float .f64 a0_5, .string a0_6, .slice A0_7 l0_7.length c0_7, .slice A0_8 l0_8.length c0_8] 32 (0, 0))) := ⟨blk_below (blk_alloc (blk_alloc (blk_new _ _) _) _) hb⟩; have BK2 : Aside0 (w1.heap[w.heap.size + 1]? = some (.cells #[.int .i64 0, .int .i64 0, .float .f64 0, .string ⟨#[]⟩] 28 (0, 0))) := ⟨blk_below (blk_alloc (by simpa using blk_new (w.alloc _) _) _) hb⟩; have BK3 : Aside0 (w1.heap[w.heap.size + 1 + 1]? = some (.cells #[.int .i64 0, .int .i64 0, .float .f64 0, .string ⟨#[]⟩] 28 (0, 0))) := ⟨blk_below (by simpa using blk_new ((w.alloc _).alloc _) _) hb⟩; clear hb; obtain ⟨p0, p1, p2, p3, p4, p5, p6, p7, p8⟩ := pcells BK1.out; obtain ⟨l0, l1, l2, l3, f0, f1, f2, f3⟩ := vcells BK2.out; obtain ⟨h0, h1, h2, h3, f4, f5, f6, f7⟩ := vcells BK3.out)
 go_region
 go_wp2
 refine bodyPost_ret (results_list (rs := [.cell 2 28, .cell 3 28, .tmp 4]) rfl (by simp) (.cell (w.heap.size + 1) 28 #[.int .i64 a0_3, .int .i64 a0_4, .float .f64 a0_5, .string a0_6] (0, 0) _ rfl (blk_drew (far4 (put4 BK2.out) (by omega))) Try.underlying28 rfl (by kernel_rfl) (.cell (w.heap.size + 1 + 1) 28 #[.int .i64 0, .int .i64 0, .float .f64 0, .string ⟨#[]⟩] (0, 0) _ rfl (blk_drew (put4 (far4 BK3.out (by omega)))) Try.underlying28 rfl (by kernel_rfl) (.tmp .nil)))) rfl ?_
 exact ⟨rfl, by refine below_drew ?_; (repeat refine below_set ?_ (by omega)); exact HB.out⟩
set_option maxHeartbeats 16000000 in
theorem bounds_ge (k : Nat) (a0_1 : ByteArray) (a0_3 a0_4 : Int) (a0_5 : Nat) (a0_6 : ByteArray) (A0_7 : Option Addr) (c0_7 : Nat) (l0_7 : List S28) (A0_8 : Option Addr) (c0_8 : Nat) (l0_8 : List S32) (w : World) (HR7 : Aside0 (Kd.C k28 w A0_7 l0_7.length l0_7 ∧ l0_7.length ≤ c0_7)) (HR8 : Aside0 (Kd.C k32 w A0_8 l0_8.length l0_8 ∧ l0_8.length ≤ c0_8)) (HR : Aside0 (atom_right.f k 1 a0_1 6 a0_3 a0_4 a0_5 a0_6 l0_7 l0_8 = some true)) :
  Calls Try.prog 25 #[.agg #[.int .i64 1, .string a0_1, .int .i64 6, .int .i64 a0_3, .int .i64 a0_4, .float .f64 a0_5, .string a0_6, .slice A0_7 l0_7.length c0_7, .slice A0_8 l0_8.length c0_8]] w fun e w' => e = .returned (.tuple #[.agg #[.int .i64 a0_3, .int .i64 a0_4, .float .f64 a0_5, .string a0_6], .agg #[.int .i64 0, .int .i64 0, .float .f64 0, .string ⟨#[]⟩], .bool true]) ∧ Below w.heap.size w w' := by
 go_enter Try.func25, Try.ntmps25
 go_wp2_with (go_at_call 55; refine (atom_right.calls k 1 a0_1 6 a0_3 a0_4 a0_5 a0_6 A0_7 c0_7 l0_7 A0_8 c0_8 l0_8 true _ (Kd.C_below HR7.out.1 (below_alloc (below_alloc (below_alloc (Below.refl _ _) _) _) _)) HR7.out.2 (Kd.C_below HR8.out.1 (below_alloc (below_alloc (below_alloc (Below.refl _ _) _) _) _)) HR8.out.2 HR.out).mono ?_; rintro e w1 ⟨rfl, hb⟩; have HB : Aside0 (Below w.heap.size w w1) := ⟨below_step (below_alloc (below_alloc (below_alloc (Below.refl _ _) _) _) _) hb⟩; have BK1 : Aside0 (w1.heap[w.heap.size]? = some (.cells #[.int .i64 1, .string a0_1, .int .i64 6, .int .i64 a0_3, .int .i64 a0_4, .float .f64 a0_5, .string a0_6, .slice A0_7 l0_7.length c0_7, .slice A0_8 l0_8.length c0_8] 32 (0, 0))) := ⟨blk_below (blk_alloc (blk_alloc (blk_new _ _) _) _) hb⟩; have BK2 : Aside0 (w1.heap[w.heap.size + 1]? = some (.cells #[.int .i64 0, .int .i64 0, .float .f64 0, .string ⟨#[]⟩] 28 (0, 0))) := ⟨blk_below (blk_alloc (by simpa using blk_new (w.alloc _) _) _) hb⟩; have BK3 : Aside0 (w1.heap[w.heap.size + 1 + 1]? = some (.cells #[.int .i64 0, .int .i64 0, .float .f64 0, .string ⟨#[]⟩] 28 (0, 0))) := ⟨blk_below (by simpa using blk_new ((w.alloc _).alloc _) _) hb⟩; clear hb; obtain ⟨p0, p1, p2, p3, p4, p5, p6, p7, p8⟩ := pcells BK1.out; obtain ⟨l0, l1, l2, l3, f0, f1, f2, f3⟩ := vcells BK2.out; obtain ⟨h0, h1, h2, h3, f4, f5, f6, f7⟩ := vcells BK3.out)
 go_region
 go_wp2
 refine bodyPost_ret (results_list (rs := [.cell 2 28, .cell 3 28, .tmp 4]) rfl (by simp) (.cell (w.heap.size + 1) 28 #[.int .i64 a0_3, .int .i64 a0_4, .float .f64 a0_5, .string a0_6] (0, 0) _ rfl (blk_drew (far4 (put4 BK2.out) (by omega))) Try.underlying28 rfl (by kernel_rfl) (.cell (w.heap.size + 1 + 1) 28 #[.int .i64 0, .int .i64 0, .float .f64 0, .string ⟨#[]⟩] (0, 0) _ rfl (blk_drew (put4 (far4 BK3.out (by omega)))) Try.underlying28 rfl (by kernel_rfl) (.tmp .nil)))) rfl ?_
 exact ⟨rfl, by refine below_drew ?_; (repeat refine below_set ?_ (by omega)); exact HB.out⟩
set_option maxHeartbeats 16000000 in
theorem bounds_ne (k : Nat) (a0_1 : ByteArray) (a0_2 : Int) (a0_3 a0_4 : Int) (a0_5 : Nat) (a0_6 : ByteArray) (A0_7 : Option Addr) (c0_7 : Nat) (l0_7 : List S28) (A0_8 : Option Addr) (c0_8 : Nat) (l0_8 : List S32) (w : World) (HR7 : Aside0 (Kd.C k28 w A0_7 l0_7.length l0_7 ∧ l0_7.length ≤ c0_7)) (HR8 : Aside0 (Kd.C k32 w A0_8 l0_8.length l0_8 ∧ l0_8.length ≤ c0_8)) (HR : Aside0 (atom_right.f k 1 a0_1 a0_2 a0_3 a0_4 a0_5 a0_6 l0_7 l0_8 = some true)) (ho : ¬ (a0_2 = 1 ∨ a0_2 = 3 ∨ a0_2 = 4 ∨ a0_2 = 5 ∨ a0_2 = 6)) :
  Calls Try.prog 25 #[.agg #[.int .i64 1, .string a0_1, .int .i64 a0_2, .int .i64 a0_3, .int .i64 a0_4, .float .f64 a0_5, .string a0_6, .slice A0_7 l0_7.length c0_7, .slice A0_8 l0_8.length c0_8]] w fun e w' => e = .returned (.tuple #[.agg #[.int .i64 0, .int .i64 0, .float .f64 0, .string ⟨#[]⟩], .agg #[.int .i64 0, .int .i64 0, .float .f64 0, .string ⟨#[]⟩], .bool false]) ∧ Below w.heap.size w w' := by
 have n21 : (a0_2 == 1) = false := by simp; omega
 have n23 : (a0_2 == 3) = false := by simp; omega
 have n24 : (a0_2 == 4) = false := by simp; omega
 have n25 : (a0_2 == 5) = false := by simp; omega
 have n26 : (a0_2 == 6) = false := by simp; omega
 clear ho
 go_enter Try.func25, Try.ntmps25
 go_wp2_with (go_at_call 55; refine (atom_right.calls k 1 a0_1 a0_2 a0_3 a0_4 a0_5 a0_6 A0_7 c0_7 l0_7 A0_8 c0_8 l0_8 true _ (Kd.C_below HR7.out.1 (below_alloc (below_alloc (below_alloc (Below.refl _ _) _) _) _)) HR7.out.2 (Kd.C_below HR8.out.1 (below_alloc (below_alloc (below_alloc (Below.refl _ _) _) _) _)) HR8.out.2 HR.out).mono ?_; rintro e w1 ⟨rfl, hb⟩; have HB : Aside0 (Below w.heap.size w w1) := ⟨below_step (below_alloc (below_alloc (below_alloc (Below.refl _ _) _) _) _) hb⟩; have BK1 : Aside0 (w1.heap[w.heap.size]? = some (.cells #[.int .i64 1, .string a0_1, .int .i64 a0_2, .int .i64 a0_3, .int .i64 a0_4, .float .f64 a0_5, .string a0_6, .slice A0_7 l0_7.length c0_7, .slice A0_8 l0_8.length c0_8] 32 (0, 0))) := ⟨blk_below (blk_alloc (blk_alloc (blk_new _ _) _) _) hb⟩; have BK2 : Aside0 (w1.heap[w.heap.size + 1]? = some (.cells #[.int .i64 0, .int .i64 0, .float .f64 0, .string ⟨#[]⟩] 28 (0, 0))) := ⟨blk_below (blk_alloc (by simpa using blk_new (w.alloc _) _) _) hb⟩; have BK3 : Aside0 (w1.heap[w.heap.size + 1 + 1]? = some (.cells #[.int .i64 0, .int .i64 0, .float .f64 0, .string ⟨#[]⟩] 28 (0, 0))) := ⟨blk_below (by simpa using blk_new ((w.alloc _).alloc _) _) hb⟩; clear hb; obtain ⟨p0, p1, p2, p3, p4, p5, p6, p7, p8⟩ := pcells BK1.out; obtain ⟨l0, l1, l2, l3, f0, f1, f2, f3⟩ := vcells BK2.out; obtain ⟨h0, h1, h2, h3, f4, f5, f6, f7⟩ := vcells BK3.out)
 go_region
 go_wp2
 refine bodyPost_ret (results_list (rs := [.cell 2 28, .cell 3 28, .tmp 4]) rfl (by simp) (.cell (w.heap.size + 1) 28 #[.int .i64 0, .int .i64 0, .float .f64 0, .string ⟨#[]⟩] (0, 0) _ rfl (blk_drew (far4 (put4 BK2.out) (by omega))) Try.underlying28 rfl (by kernel_rfl) (.cell (w.heap.size + 1 + 1) 28 #[.int .i64 0, .int .i64 0, .float .f64 0, .string ⟨#[]⟩] (0, 0) _ rfl (blk_drew (put4 (far4 BK3.out (by omega)))) Try.underlying28 rfl (by kernel_rfl) (.tmp .nil)))) rfl ?_
 exact ⟨rfl, by refine below_drew ?_; (repeat refine below_set ?_ (by omega)); exact HB.out⟩
set_option maxHeartbeats 16000000 in
theorem bounds_none (k : Nat) (a0_1 : ByteArray) (a0_2 : Int) (a0_3 a0_4 : Int) (a0_5 : Nat) (a0_6 : ByteArray) (A0_7 : Option Addr) (c0_7 : Nat) (l0_7 : List S28) (A0_8 : Option Addr) (c0_8 : Nat) (l0_8 : List S32) (w : World) (HR7 : Aside0 (Kd.C k28 w A0_7 l0_7.length l0_7 ∧ l0_7.length ≤ c0_7)) (HR8 : Aside0 (Kd.C k32 w A0_8 l0_8.length l0_8 ∧ l0_8.length ≤ c0_8)) (HR : Aside0 (atom_right.f k 2 a0_1 a0_2 a0_3 a0_4 a0_5 a0_6 l0_7 l0_8 = some true)) (ho : l0_7.length = 0) :
  Calls Try.prog 25 #[.agg #[.int .i64 2, .string a0_1, .int .i64 a0_2, .int .i64 a0_3, .int .i64 a0_4, .float .f64 a0_5, .string a0_6, .slice A0_7 l0_7.length c0_7, .slice A0_8 l0_8.length c0_8]] w fun e w' => e = .returned (.tuple #[.agg #[.int .i64 0, .int .i64 0, .float .f64 0, .string ⟨#[]⟩], .agg #[.int .i64 0, .int .i64 0, .float .f64 0, .string ⟨#[]⟩], .bool false]) ∧ Below w.heap.size w w' := by
 have d0 : decide ((0 : Int) < (l0_7.length : Int)) = false := decide_eq_false (by omega)
 have d1 : decide (0 < l0_7.length) = false := decide_eq_false (by omega)
 replace ho := Aside0.mk ho
 go_enter Try.func25, Try.ntmps25
 go_wp2_with (go_at_call 55; refine (atom_right.calls k 2 a0_1 a0_2 a0_3 a0_4 a0_5 a0_6 A0_7 c0_7 l0_7 A0_8 c0_8 l0_8 true _ (Kd.C_below HR7.out.1 (below_alloc (below_alloc (below_alloc (Below.refl _ _) _) _) _)) HR7.out.2 (Kd.C_below HR8.out.1 (below_alloc (below_alloc (below_alloc (Below.refl _ _) _) _) _)) HR8.out.2 HR.out).mono ?_; rintro e w1 ⟨rfl, hb⟩; have HB : Aside0 (Below w.heap.size w w1) := ⟨below_step (below_alloc (below_alloc (below_alloc (Below.refl _ _) _) _) _) hb⟩; have BK1 : Aside0 (w1.heap[w.heap.size]? = some (.cells #[.int .i64 2, .string a0_1, .int .i64 a0_2, .int .i64 a0_3, .int .i64 a0_4, .float .f64 a0_5, .string a0_6, .slice A0_7 l0_7.length c0_7, .slice A0_8 l0_8.length c0_8] 32 (0, 0))) := ⟨blk_below (blk_alloc (blk_alloc (blk_new _ _) _) _) hb⟩; have BK2 : Aside0 (w1.heap[w.heap.size + 1]? = some (.cells #[.int .i64 0, .int .i64 0, .float .f64 0, .string ⟨#[]⟩] 28 (0, 0))) := ⟨blk_below (blk_alloc (by simpa using blk_new (w.alloc _) _) _) hb⟩; have BK3 : Aside0 (w1.heap[w.heap.size + 1 + 1]? = some (.cells #[.int .i64 0, .int .i64 0, .float .f64 0, .string ⟨#[]⟩] 28 (0, 0))) := ⟨blk_below (by simpa using blk_new ((w.alloc _).alloc _) _) hb⟩; clear hb; obtain ⟨p0, p1, p2, p3, p4, p5, p6, p7, p8⟩ := pcells BK1.out; obtain ⟨l0, l1, l2, l3, f0, f1, f2, f3⟩ := vcells BK2.out; obtain ⟨h0, h1, h2, h3, f4, f5, f6, f7⟩ := vcells BK3.out)
 go_region
 go_wp2
 refine bodyPost_ret (results_list (rs := [.cell 2 28, .cell 3 28, .tmp 4]) rfl (by simp) (.cell (w.heap.size + 1) 28 #[.int .i64 0, .int .i64 0, .float .f64 0, .string ⟨#[]⟩] (0, 0) _ rfl (blk_drew (far4 (put4 BK2.out) (by omega))) Try.underlying28 rfl (by kernel_rfl) (.cell (w.heap.size + 1 + 1) 28 #[.int .i64 0, .int .i64 0, .float .f64 0, .string ⟨#[]⟩] (0, 0) _ rfl (blk_drew (put4 (far4 BK3.out (by omega)))) Try.underlying28 rfl (by kernel_rfl) (.tmp .nil)))) rfl ?_
 exact ⟨rfl, by refine below_drew ?_; (repeat refine below_set ?_ (by omega)); exact HB.out⟩
set_option maxHeartbeats 16000000 in
theorem bounds_between (k : Nat) (a0_1 : ByteArray) (a0_2 : Int) (a0_3 a0_4 : Int) (a0_5 : Nat) (a0_6 : ByteArray) (A0_7 : Option Addr) (c0_7 : Nat) (l0_7 : List S28) (A0_8 : Option Addr) (c0_8 : Nat) (l0_8 : List S32) (w : World) (HR7 : Aside0 (Kd.C k28 w A0_7 l0_7.length l0_7 ∧ l0_7.length ≤ c0_7)) (HR8 : Aside0 (Kd.C k32 w A0_8 l0_8.length l0_8 ∧ l0_8.length ≤ c0_8)) (HR : Aside0 (atom_right.f k 3 a0_1 a0_2 a0_3 a0_4 a0_5 a0_6 l0_7 l0_8 = some true)) (ho : 1 < l0_7.length) :
  Calls Try.prog 25 #[.agg #[.int .i64 3, .string a0_1, .int .i64 a0_2, .int .i64 a0_3, .int .i64 a0_4, .float .f64 a0_5, .string a0_6, .slice A0_7 l0_7.length c0_7, .slice A0_8 l0_8.length c0_8]] w fun e w' => e = .returned (.tuple #[.agg #[.int .i64 (rd_T28 l0_7 0).f0, .int .i64 (rd_T28 l0_7 0).f1, .float .f64 (rd_T28 l0_7 0).f2, .string (rd_T28 l0_7 0).f3], .agg #[.int .i64 (rd_T28 l0_7 1).f0, .int .i64 (rd_T28 l0_7 1).f1, .float .f64 (rd_T28 l0_7 1).f2, .string (rd_T28 l0_7 1).f3], .bool true]) ∧ Below w.heap.size w w' := by
 obtain ⟨ad, ea, x0, x1, x2, x3⟩ := at_T28 HR7.out.1 0 (by omega) (by omega)
 obtain ⟨ad', ea', y0, y1, y2, y3⟩ := at_T28 HR7.out.1 1 (by omega) (by omega)
 subst ea
 obtain rfl := Option.some.inj ea'
 clear ea'
 obtain ⟨c, hc⟩ : ∃ c, c = rd_T28 l0_7 0 := ⟨_, rfl⟩
 obtain ⟨d, hd⟩ : ∃ d, d = rd_T28 l0_7 1 := ⟨_, rfl⟩
 rw [← hc] at x0 x1 x2 x3
 rw [← hd] at y0 y1 y2 y3
 rw [← hc, ← hd]
 have ez : ad.add 0 = ad := rfl
 have e4 : (1 : Int).toNat * 4 = 4 := rfl
 simp only [Int.toNat_zero, Nat.zero_mul, ez] at x0 x1 x2 x3
 rw [e4] at y0 y1 y2 y3
 have e5 : ad.add 4 = ⟨ad.block, ad.off + 4, none⟩ := rfl
 rw [e5] at y0 y1 y2 y3
 clear e5
 have X := Aside0.mk (And.intro x0 (And.intro x1 (And.intro x2 (And.intro x3 (And.intro y0 (And.intro y1 (And.intro y2 y3)))))))
 have q0 : decide (0 < l0_7.length) = true := decide_eq_true (by omega)
 have q1 : decide (1 < l0_7.length) = true := decide_eq_true (by omega)
 have q2 : decide ((0 : Int) < (l0_7.length : Int)) = true := decide_eq_true (by omega)
 have q3 : decide ((1 : Int) < (l0_7.length : Int)) = true := decide_eq_true (by omega)
 have q4 : (0 : Int) < (l0_7.length : Int) := by omega
 have q5 : (1 : Int) < (l0_7.length : Int) := by omega
 have q6 : 0 < l0_7.length := by omega
 clear x0 x1 x2 x3 y0 y1 y2 y3 ez e4
 replace hc := Aside0.mk hc
 replace hd := Aside0.mk hd
 go_enter Try.func25, Try.ntmps25
 go_wp2_with (go_at_call 55; refine (atom_right.calls k 3 a0_1 a0_2 a0_3 a0_4 a0_5 a0_6 (some ad) c0_7 l0_7 A0_8 c0_8 l0_8 true _ (Kd.C_below HR7.out.1 (below_alloc (below_alloc (below_alloc (Below.refl _ _) _) _) _)) HR7.out.2 (Kd.C_below HR8.out.1 (below_alloc (below_alloc (below_alloc (Below.refl _ _) _) _) _)) HR8.out.2 HR.out).mono ?_; rintro e w1 ⟨rfl, hb⟩; have HB : Aside0 (Below w.heap.size w w1) := ⟨below_step (below_alloc (below_alloc (below_alloc (Below.refl _ _) _) _) _) hb⟩; have BK1 : Aside0 (w1.heap[w.heap.size]? = some (.cells #[.int .i64 3, .string a0_1, .int .i64 a0_2, .int .i64 a0_3, .int .i64 a0_4, .float .f64 a0_5, .string a0_6, .slice (some ad) l0_7.length c0_7, .slice A0_8 l0_8.length c0_8] 32 (0, 0))) := ⟨blk_below (blk_alloc (blk_alloc (blk_new _ _) _) _) hb⟩; have BK2 : Aside0 (w1.heap[w.heap.size + 1]? = some (.cells #[.int .i64 0, .int .i64 0, .float .f64 0, .string ⟨#[]⟩] 28 (0, 0))) := ⟨blk_below (blk_alloc (by simpa using blk_new (w.alloc _) _) _) hb⟩; have BK3 : Aside0 (w1.heap[w.heap.size + 1 + 1]? = some (.cells #[.int .i64 0, .int .i64 0, .float .f64 0, .string ⟨#[]⟩] 28 (0, 0))) := ⟨blk_below (by simpa using blk_new ((w.alloc _).alloc _) _) hb⟩; clear hb; obtain ⟨p0, p1, p2, p3, p4, p5, p6, p7, p8⟩ := pcells BK1.out; obtain ⟨l0, l1, l2, l3, f0, f1, f2, f3⟩ := vcells BK2.out; obtain ⟨h0, h1, h2, h3, f4, f5, f6, f7⟩ := vcells BK3.out; have x0 := pw_cell_below HB.out X.out.1; have x1 := pw_cell_below HB.out X.out.2.1; have x2 := pw_cell_below HB.out X.out.2.2.1; have x3 := pw_cell_below HB.out X.out.2.2.2.1; have y0 := pw_cell_below HB.out X.out.2.2.2.2.1; have y1 := pw_cell_below HB.out X.out.2.2.2.2.2.1; have y2 := pw_cell_below HB.out X.out.2.2.2.2.2.2.1; have y3 := pw_cell_below HB.out X.out.2.2.2.2.2.2.2)
 go_region
 go_wp2
 refine bodyPost_ret (results_list (rs := [.cell 2 28, .cell 3 28, .tmp 4]) rfl (by simp) (.cell (w.heap.size + 1) 28 #[.int .i64 c.f0, .int .i64 c.f1, .float .f64 c.f2, .string c.f3] (0, 0) _ rfl (blk_drew (far4 (put4 BK2.out) (by omega))) Try.underlying28 rfl (by kernel_rfl) (.cell (w.heap.size + 1 + 1) 28 #[.int .i64 d.f0, .int .i64 d.f1, .float .f64 d.f2, .string d.f3] (0, 0) _ rfl (blk_drew (put4 (far4 BK3.out (by omega)))) Try.underlying28 rfl (by kernel_rfl) (.tmp .nil)))) rfl ?_
 exact ⟨rfl, by refine below_drew ?_; (repeat refine below_set ?_ (by omega)); exact HB.out⟩
set_option maxHeartbeats 16000000 in
theorem bounds_begins (k : Nat) (a0_1 : ByteArray) (a0_2 : Int) (a0_3 a0_4 : Int) (a0_5 : Nat) (a0_6 : ByteArray) (A0_7 : Option Addr) (c0_7 : Nat) (l0_7 : List S28) (A0_8 : Option Addr) (c0_8 : Nat) (l0_8 : List S32) (w : World) (HR7 : Aside0 (Kd.C k28 w A0_7 l0_7.length l0_7 ∧ l0_7.length ≤ c0_7)) (HR8 : Aside0 (Kd.C k32 w A0_8 l0_8.length l0_8 ∧ l0_8.length ≤ c0_8)) (HR : Aside0 (atom_right.f k 5 a0_1 a0_2 a0_3 a0_4 a0_5 a0_6 l0_7 l0_8 = some true)) :
  Calls Try.prog 25 #[.agg #[.int .i64 5, .string a0_1, .int .i64 a0_2, .int .i64 a0_3, .int .i64 a0_4, .float .f64 a0_5, .string a0_6, .slice A0_7 l0_7.length c0_7, .slice A0_8 l0_8.length c0_8]] w fun e w' => e = .returned (.tuple #[.agg #[.int .i64 a0_3, .int .i64 a0_4, .float .f64 a0_5, .string a0_6], .agg #[.int .i64 0, .int .i64 0, .float .f64 0, .string ⟨#[]⟩], .bool true]) ∧ Below w.heap.size w w' := by
 go_enter Try.func25, Try.ntmps25
 go_wp2_with (go_at_call 55; refine (atom_right.calls k 5 a0_1 a0_2 a0_3 a0_4 a0_5 a0_6 A0_7 c0_7 l0_7 A0_8 c0_8 l0_8 true _ (Kd.C_below HR7.out.1 (below_alloc (below_alloc (below_alloc (Below.refl _ _) _) _) _)) HR7.out.2 (Kd.C_below HR8.out.1 (below_alloc (below_alloc (below_alloc (Below.refl _ _) _) _) _)) HR8.out.2 HR.out).mono ?_; rintro e w1 ⟨rfl, hb⟩; have HB : Aside0 (Below w.heap.size w w1) := ⟨below_step (below_alloc (below_alloc (below_alloc (Below.refl _ _) _) _) _) hb⟩; have BK1 : Aside0 (w1.heap[w.heap.size]? = some (.cells #[.int .i64 5, .string a0_1, .int .i64 a0_2, .int .i64 a0_3, .int .i64 a0_4, .float .f64 a0_5, .string a0_6, .slice A0_7 l0_7.length c0_7, .slice A0_8 l0_8.length c0_8] 32 (0, 0))) := ⟨blk_below (blk_alloc (blk_alloc (blk_new _ _) _) _) hb⟩; have BK2 : Aside0 (w1.heap[w.heap.size + 1]? = some (.cells #[.int .i64 0, .int .i64 0, .float .f64 0, .string ⟨#[]⟩] 28 (0, 0))) := ⟨blk_below (blk_alloc (by simpa using blk_new (w.alloc _) _) _) hb⟩; have BK3 : Aside0 (w1.heap[w.heap.size + 1 + 1]? = some (.cells #[.int .i64 0, .int .i64 0, .float .f64 0, .string ⟨#[]⟩] 28 (0, 0))) := ⟨blk_below (by simpa using blk_new ((w.alloc _).alloc _) _) hb⟩; clear hb; obtain ⟨p0, p1, p2, p3, p4, p5, p6, p7, p8⟩ := pcells BK1.out; obtain ⟨l0, l1, l2, l3, f0, f1, f2, f3⟩ := vcells BK2.out; obtain ⟨h0, h1, h2, h3, f4, f5, f6, f7⟩ := vcells BK3.out)
 go_region
 go_wp2
 refine bodyPost_ret (results_list (rs := [.cell 2 28, .cell 3 28, .tmp 4]) rfl (by simp) (.cell (w.heap.size + 1) 28 #[.int .i64 a0_3, .int .i64 a0_4, .float .f64 a0_5, .string a0_6] (0, 0) _ rfl (blk_drew (far4 (put4 BK2.out) (by omega))) Try.underlying28 rfl (by kernel_rfl) (.cell (w.heap.size + 1 + 1) 28 #[.int .i64 0, .int .i64 0, .float .f64 0, .string ⟨#[]⟩] (0, 0) _ rfl (blk_drew (put4 (far4 BK3.out (by omega)))) Try.underlying28 rfl (by kernel_rfl) (.tmp .nil)))) rfl ?_
 exact ⟨rfl, by refine below_drew ?_; (repeat refine below_set ?_ (by omega)); exact HB.out⟩
set_option maxHeartbeats 16000000 in
theorem bounds_other (k : Nat) (a0_0 : Int) (a0_1 : ByteArray) (a0_2 : Int) (a0_3 a0_4 : Int) (a0_5 : Nat) (a0_6 : ByteArray) (A0_7 : Option Addr) (c0_7 : Nat) (l0_7 : List S28) (A0_8 : Option Addr) (c0_8 : Nat) (l0_8 : List S32) (w : World) (HR7 : Aside0 (Kd.C k28 w A0_7 l0_7.length l0_7 ∧ l0_7.length ≤ c0_7)) (HR8 : Aside0 (Kd.C k32 w A0_8 l0_8.length l0_8 ∧ l0_8.length ≤ c0_8)) (HR : Aside0 (atom_right.f k a0_0 a0_1 a0_2 a0_3 a0_4 a0_5 a0_6 l0_7 l0_8 = some true)) (ho : ¬ (a0_0 = 1 ∨ a0_0 = 2 ∨ a0_0 = 3 ∨ a0_0 = 5)) :
  Calls Try.prog 25 #[.agg #[.int .i64 a0_0, .string a0_1, .int .i64 a0_2, .int .i64 a0_3, .int .i64 a0_4, .float .f64 a0_5, .string a0_6, .slice A0_7 l0_7.length c0_7, .slice A0_8 l0_8.length c0_8]] w fun e w' => e = .returned (.tuple #[.agg #[.int .i64 0, .int .i64 0, .float .f64 0, .string ⟨#[]⟩], .agg #[.int .i64 0, .int .i64 0, .float .f64 0, .string ⟨#[]⟩], .bool false]) ∧ Below w.heap.size w w' := by
 have n01 : (a0_0 == 1) = false := by simp; omega
 have n02 : (a0_0 == 2) = false := by simp; omega
 have n03 : (a0_0 == 3) = false := by simp; omega
 have n05 : (a0_0 == 5) = false := by simp; omega
 clear ho
 go_enter Try.func25, Try.ntmps25
 go_wp2_with (go_at_call 55; refine (atom_right.calls k a0_0 a0_1 a0_2 a0_3 a0_4 a0_5 a0_6 A0_7 c0_7 l0_7 A0_8 c0_8 l0_8 true _ (Kd.C_below HR7.out.1 (below_alloc (below_alloc (below_alloc (Below.refl _ _) _) _) _)) HR7.out.2 (Kd.C_below HR8.out.1 (below_alloc (below_alloc (below_alloc (Below.refl _ _) _) _) _)) HR8.out.2 HR.out).mono ?_; rintro e w1 ⟨rfl, hb⟩; have HB : Aside0 (Below w.heap.size w w1) := ⟨below_step (below_alloc (below_alloc (below_alloc (Below.refl _ _) _) _) _) hb⟩; have BK1 : Aside0 (w1.heap[w.heap.size]? = some (.cells #[.int .i64 a0_0, .string a0_1, .int .i64 a0_2, .int .i64 a0_3, .int .i64 a0_4, .float .f64 a0_5, .string a0_6, .slice A0_7 l0_7.length c0_7, .slice A0_8 l0_8.length c0_8] 32 (0, 0))) := ⟨blk_below (blk_alloc (blk_alloc (blk_new _ _) _) _) hb⟩; have BK2 : Aside0 (w1.heap[w.heap.size + 1]? = some (.cells #[.int .i64 0, .int .i64 0, .float .f64 0, .string ⟨#[]⟩] 28 (0, 0))) := ⟨blk_below (blk_alloc (by simpa using blk_new (w.alloc _) _) _) hb⟩; have BK3 : Aside0 (w1.heap[w.heap.size + 1 + 1]? = some (.cells #[.int .i64 0, .int .i64 0, .float .f64 0, .string ⟨#[]⟩] 28 (0, 0))) := ⟨blk_below (by simpa using blk_new ((w.alloc _).alloc _) _) hb⟩; clear hb; obtain ⟨p0, p1, p2, p3, p4, p5, p6, p7, p8⟩ := pcells BK1.out; obtain ⟨l0, l1, l2, l3, f0, f1, f2, f3⟩ := vcells BK2.out; obtain ⟨h0, h1, h2, h3, f4, f5, f6, f7⟩ := vcells BK3.out)
 go_region
 go_wp2
 refine bodyPost_ret (results_list (rs := [.cell 2 28, .cell 3 28, .tmp 4]) rfl (by simp) (.cell (w.heap.size + 1) 28 #[.int .i64 0, .int .i64 0, .float .f64 0, .string ⟨#[]⟩] (0, 0) _ rfl (blk_drew (far4 (put4 BK2.out) (by omega))) Try.underlying28 rfl (by kernel_rfl) (.cell (w.heap.size + 1 + 1) 28 #[.int .i64 0, .int .i64 0, .float .f64 0, .string ⟨#[]⟩] (0, 0) _ rfl (blk_drew (put4 (far4 BK3.out (by omega)))) Try.underlying28 rfl (by kernel_rfl) (.tmp .nil)))) rfl ?_
 exact ⟨rfl, by refine below_drew ?_; (repeat refine below_set ?_ (by omega)); exact HB.out⟩
set_option maxHeartbeats 16000000 in
theorem bounds_in (k : Nat) (a0_1 : ByteArray) (a0_2 : Int) (a0_3 a0_4 : Int) (a0_5 : Nat) (a0_6 : ByteArray) (A0_7 : Option Addr) (c0_7 : Nat) (l0_7 : List S28) (A0_8 : Option Addr) (c0_8 : Nat) (l0_8 : List S32) (w : World) (HR7 : Aside0 (Kd.C k28 w A0_7 l0_7.length l0_7 ∧ l0_7.length ≤ c0_7)) (HR8 : Aside0 (Kd.C k32 w A0_8 l0_8.length l0_8 ∧ l0_8.length ≤ c0_8)) (HR : Aside0 (atom_right.f k 2 a0_1 a0_2 a0_3 a0_4 a0_5 a0_6 l0_7 l0_8 = some true)) (ho : 0 < l0_7.length) (mn mx_ : S28) (HMn : Aside0 (minCompare.f k l0_7 = some mn)) (HMx : Aside0 (maxCompare.f k l0_7 = some mx_)) :
  Calls Try.prog 25 #[.agg #[.int .i64 2, .string a0_1, .int .i64 a0_2, .int .i64 a0_3, .int .i64 a0_4, .float .f64 a0_5, .string a0_6, .slice A0_7 l0_7.length c0_7, .slice A0_8 l0_8.length c0_8]] w fun e w' => e = .returned (.tuple #[.agg #[.int .i64 mn.f0, .int .i64 mn.f1, .float .f64 mn.f2, .string mn.f3], .agg #[.int .i64 mx_.f0, .int .i64 mx_.f1, .float .f64 mx_.f2, .string mx_.f3], .bool true]) ∧ Below w.heap.size w w' := by
 have d0 : decide ((0 : Int) < (l0_7.length : Int)) = true := decide_eq_true (by omega)
 have d1 : decide (0 < l0_7.length) = true := decide_eq_true (by omega)
 go_enter Try.func25, Try.ntmps25
 go_wp2_with (go_at_call 55; refine (atom_right.calls k 2 a0_1 a0_2 a0_3 a0_4 a0_5 a0_6 A0_7 c0_7 l0_7 A0_8 c0_8 l0_8 true _ (Kd.C_below HR7.out.1 (below_alloc (below_alloc (below_alloc (Below.refl _ _) _) _) _)) HR7.out.2 (Kd.C_below HR8.out.1 (below_alloc (below_alloc (below_alloc (Below.refl _ _) _) _) _)) HR8.out.2 HR.out).mono ?_; rintro e w1 ⟨rfl, hb⟩; have HB : Aside0 (Below w.heap.size w w1) := ⟨below_step (below_alloc (below_alloc (below_alloc (Below.refl _ _) _) _) _) hb⟩; have BK1 : Aside0 (w1.heap[w.heap.size]? = some (.cells #[.int .i64 2, .string a0_1, .int .i64 a0_2, .int .i64 a0_3, .int .i64 a0_4, .float .f64 a0_5, .string a0_6, .slice A0_7 l0_7.length c0_7, .slice A0_8 l0_8.length c0_8] 32 (0, 0))) := ⟨blk_below (blk_alloc (blk_alloc (blk_new _ _) _) _) hb⟩; have BK2 : Aside0 (w1.heap[w.heap.size + 1]? = some (.cells #[.int .i64 0, .int .i64 0, .float .f64 0, .string ⟨#[]⟩] 28 (0, 0))) := ⟨blk_below (blk_alloc (by simpa using blk_new (w.alloc _) _) _) hb⟩; have BK3 : Aside0 (w1.heap[w.heap.size + 1 + 1]? = some (.cells #[.int .i64 0, .int .i64 0, .float .f64 0, .string ⟨#[]⟩] 28 (0, 0))) := ⟨blk_below (by simpa using blk_new ((w.alloc _).alloc _) _) hb⟩; clear hb; obtain ⟨p0, p1, p2, p3, p4, p5, p6, p7, p8⟩ := pcells BK1.out; obtain ⟨l0, l1, l2, l3, f0, f1, f2, f3⟩ := vcells BK2.out; obtain ⟨h0, h1, h2, h3, f4, f5, f6, f7⟩ := vcells BK3.out)
 refine start_ (n := 9) (S := fun w' => w'.cell? ⟨w.heap.size, 7, none⟩ = some (.slice A0_7 l0_7.length c0_7)) (ds := []) #[false, false, false, false, false, false, false, false, false] (by kernel_rfl) rfl rfl p7 (fun hHeld => ?_)
 have n1_ := Aside0.mk (blk_drew BK1.out)
 have n2_ := Aside0.mk (blk_drew BK2.out)
 have n3_ := Aside0.mk (blk_drew BK3.out)
 have n4_ := Aside0.mk (below_drew HB.out)
 clear p0 p1 p2 p3 p4 p5 p6 p7 p8 l0 l1 l2 l3 f0 f1 f2 f3 h0 h1 h2 h3 f4 f5 f6 f7 BK1 BK2 BK3 HB
 have BK1 := n1_
 have BK2 := n2_
 have BK3 := n3_
 have HB := n4_
 clear n1_ n2_ n3_ n4_
 generalize w1.drew = w5 at BK1 BK2 BK3 HB hHeld ⊢
 refine pureP #[true, false, false, false, false, false, false, false, false] (by kernel_rfl) (i := 0) (N := some 40) ?_
 refine takeP #[true, true, false, false, false, false, false, false, false] (by kernel_rfl) hHeld (i := 1) (N := some 41) ?_
 refine pureP #[true, true, false, true, false, false, false, false, false] (by kernel_rfl) (i := 3) (N := some 43) ?_
 refine takeP #[true, true, false, true, true, false, false, false, false] (by kernel_rfl) hHeld (i := 4) (N := some 44) ?_
 refine one_ (i := 2) (N := some 42) #[true, true, true, true, true, false, false, false, false] rfl rfl (by kernel_rfl) (by decide) (fun K hK => ?_)
 refine goes_ Try.func56 (by kernel_rfl) rfl #[.slice A0_7 l0_7.length c0_7, .func (.func 29) #[] #[]] (by rfl) rfl rfl (by (try simp only [List.map_toArray, List.map_cons, List.map_nil]); first | done | rfl) ?_
 refine (minCompare.calls k A0_7 c0_7 l0_7 mn _ (Kd.C_below HR7.out.1 HB.out) HR7.out.2 HMn.out).mono ?_
 rintro e w2 ⟨rfl, hb⟩
 refine ⟨_, rfl, ?_⟩
 have n1_ := Aside0.mk (blk_below BK1.out hb)
 have n2_ := Aside0.mk (blk_below BK2.out hb)
 have n3_ := Aside0.mk (blk_below BK3.out hb)
 have n4_ := Aside0.mk (below_step HB.out hb)
 clear BK1 BK2 BK3 HB
 have BK1 := n1_
 have BK2 := n2_
 have BK3 := n3_
 have HB := n4_
 clear n1_ n2_ n3_ n4_ hb
 refine hK.out _ _ ((blk_cell BK1.out 7).trans rfl) (fun hHeld => ?_)
 clear hK K
 refine norm_ (a' := ?_) ?_ ?_
 rotate_left
 ·show Act.put _ (some 42) _ = _
  simp only [Act.put, List.setIfInBounds_toArray, List.set_cons_zero, List.set_cons_succ, i64_w, i32_w]
  rfl
 refine one_ (i := 5) (N := some 45) #[true, true, true, true, true, true, false, false, false] rfl rfl (by kernel_rfl) (by decide) (fun K hK => ?_)
 refine goes_ Try.func57 (by kernel_rfl) rfl #[.slice A0_7 l0_7.length c0_7, .func (.func 29) #[] #[]] (by rfl) rfl rfl (by (try simp only [List.map_toArray, List.map_cons, List.map_nil]); first | done | rfl) ?_
 refine (maxCompare.calls k A0_7 c0_7 l0_7 mx_ _ (Kd.C_below HR7.out.1 HB.out) HR7.out.2 HMx.out).mono ?_
 rintro e w3 ⟨rfl, hb⟩
 refine ⟨_, rfl, ?_⟩
 have n1_ := Aside0.mk (blk_below BK1.out hb)
 have n2_ := Aside0.mk (blk_below BK2.out hb)
 have n3_ := Aside0.mk (blk_below BK3.out hb)
 have n4_ := Aside0.mk (below_step HB.out hb)
 clear BK1 BK2 BK3 HB
 have BK1 := n1_
 have BK2 := n2_
 have BK3 := n3_
 have HB := n4_
 clear n1_ n2_ n3_ n4_ hb
 refine hK.out _ _ ((blk_cell BK1.out 7).trans rfl) (fun hHeld => ?_)
 clear hK K
 refine norm_ (a' := ?_) ?_ ?_
 rotate_left
 ·show Act.put _ (some 45) _ = _
  simp only [Act.put, List.setIfInBounds_toArray, List.set_cons_zero, List.set_cons_succ, i64_w, i32_w]
  rfl
 refine one_ (i := 6) (N := none) #[true, true, true, true, true, true, true, false, false] rfl rfl (by kernel_rfl) (by decide) (fun K hK => ?_)
 obtain ⟨l0, l1, l2, l3, f0, f1, f2, f3⟩ := vcells BK2.out
 refine skip_ (w1 := ?w1) (by rfl) rfl ?hrun ?_
 case hrun => go_simp; rfl
 clear l0 l1 l2 l3 f0 f1 f2 f3
 have n1_ := Aside0.mk (far4 (g' := w.heap.size + 1) (y0 := .int .i64 mn.f0) (y1 := .int .i64 mn.f1) (y2 := .float .f64 mn.f2) (y3 := .string mn.f3) BK1.out (by omega))
 have n2_ := Aside0.mk (put4 (y0 := .int .i64 mn.f0) (y1 := .int .i64 mn.f1) (y2 := .float .f64 mn.f2) (y3 := .string mn.f3) BK2.out)
 have n3_ := Aside0.mk (far4 (g' := w.heap.size + 1) (y0 := .int .i64 mn.f0) (y1 := .int .i64 mn.f1) (y2 := .float .f64 mn.f2) (y3 := .string mn.f3) BK3.out (by omega))
 have n4_ := Aside0.mk (show Below w.heap.size w ((((w3.setCell ⟨w.heap.size + 1, 0, none⟩ (.int .i64 mn.f0)).setCell ⟨w.heap.size + 1, 1, none⟩ (.int .i64 mn.f1)).setCell ⟨w.heap.size + 1, 2, none⟩ (.float .f64 mn.f2)).setCell ⟨w.heap.size + 1, 3, none⟩ (.string mn.f3)) by (repeat refine below_set ?_ (by omega)); exact HB.out)
 clear BK1 BK2 BK3 HB
 have BK1 := n1_
 have BK2 := n2_
 have BK3 := n3_
 have HB := n4_
 clear n1_ n2_ n3_ n4_
 generalize ((((w3.setCell ⟨w.heap.size + 1, 0, none⟩ (.int .i64 mn.f0)).setCell ⟨w.heap.size + 1, 1, none⟩ (.int .i64 mn.f1)).setCell ⟨w.heap.size + 1, 2, none⟩ (.float .f64 mn.f2)).setCell ⟨w.heap.size + 1, 3, none⟩ (.string mn.f3)) = w4 at BK1 BK2 BK3 HB ⊢
 refine hK.out _ _ ((blk_cell BK1.out 7).trans rfl) (fun hHeld => ?_)
 clear hK K
 refine one_ (i := 7) (N := none) #[true, true, true, true, true, true, true, true, false] rfl rfl (by kernel_rfl) (by decide) (fun K hK => ?_)
 obtain ⟨l0, l1, l2, l3, f0, f1, f2, f3⟩ := vcells BK3.out
 refine skip_ (w1 := ?w1b) (by rfl) rfl ?hrunb ?_
 case hrunb => go_simp; rfl
 clear l0 l1 l2 l3 f0 f1 f2 f3
 have n1_ := Aside0.mk (far4 (g' := w.heap.size + 1 + 1) (y0 := .int .i64 mx_.f0) (y1 := .int .i64 mx_.f1) (y2 := .float .f64 mx_.f2) (y3 := .string mx_.f3) BK1.out (by omega))
 have n2_ := Aside0.mk (far4 (g' := w.heap.size + 1 + 1) (y0 := .int .i64 mx_.f0) (y1 := .int .i64 mx_.f1) (y2 := .float .f64 mx_.f2) (y3 := .string mx_.f3) BK2.out (by omega))
 have n3_ := Aside0.mk (put4 (y0 := .int .i64 mx_.f0) (y1 := .int .i64 mx_.f1) (y2 := .float .f64 mx_.f2) (y3 := .string mx_.f3) BK3.out)
 have n4_ := Aside0.mk (show Below w.heap.size w ((((w4.setCell ⟨w.heap.size + 1 + 1, 0, none⟩ (.int .i64 mx_.f0)).setCell ⟨w.heap.size + 1 + 1, 1, none⟩ (.int .i64 mx_.f1)).setCell ⟨w.heap.size + 1 + 1, 2, none⟩ (.float .f64 mx_.f2)).setCell ⟨w.heap.size + 1 + 1, 3, none⟩ (.string mx_.f3)) by (repeat refine below_set ?_ (by omega)); exact HB.out)
 clear BK1 BK2 BK3 HB
 have BK1 := n1_
 have BK2 := n2_
 have BK3 := n3_
 have HB := n4_
 clear n1_ n2_ n3_ n4_
 generalize ((((w4.setCell ⟨w.heap.size + 1 + 1, 0, none⟩ (.int .i64 mx_.f0)).setCell ⟨w.heap.size + 1 + 1, 1, none⟩ (.int .i64 mx_.f1)).setCell ⟨w.heap.size + 1 + 1, 2, none⟩ (.float .f64 mx_.f2)).setCell ⟨w.heap.size + 1 + 1, 3, none⟩ (.string mx_.f3)) = w6 at BK1 BK2 BK3 HB ⊢
 refine hK.out _ _ ((blk_cell BK1.out 7).trans rfl) (fun hHeld => ?_)
 clear hK K
 refine pureP #[true, true, true, true, true, true, true, true, true] (by kernel_rfl) (i := 8) (N := some 4) ?_
 refine done_ (by kernel_rfl) ?_
 go_wp2
 refine bodyPost_ret (results_list (rs := [.cell 2 28, .cell 3 28, .tmp 4]) rfl (by simp) (.cell (w.heap.size + 1) 28 #[.int .i64 mn.f0, .int .i64 mn.f1, .float .f64 mn.f2, .string mn.f3] (0, 0) _ rfl BK2.out Try.underlying28 rfl (by kernel_rfl) (.cell (w.heap.size + 1 + 1) 28 #[.int .i64 mx_.f0, .int .i64 mx_.f1, .float .f64 mx_.f2, .string mx_.f3] (0, 0) _ rfl BK3.out Try.underlying28 rfl (by kernel_rfl) (.tmp .nil)))) rfl ?_
 exact ⟨rfl, by (repeat refine below_set ?_ (by omega)); exact HB.out⟩
def atom_Bounds.f (k : Nat) (a0_0 : Int) (a0_1 : ByteArray) (a0_2 a0_3 a0_4 : Int) (a0_5 : Nat) (a0_6 : ByteArray) (l0_7 : List S28) (l0_8 : List S32) : Option (Int × Int × Nat × ByteArray × Int × Int × Nat × ByteArray × Bool) :=
 (atom_right.f k a0_0 a0_1 a0_2 a0_3 a0_4 a0_5 a0_6 l0_7 l0_8).bind fun b => if b = false then some (0, 0, 0, (⟨#[]⟩ : ByteArray), 0, 0, 0, (⟨#[]⟩ : ByteArray), false) else if a0_0 = 1 then (if a0_2 = 1 then some (a0_3, a0_4, a0_5, a0_6, a0_3, a0_4, a0_5, a0_6, true) else if a0_2 = 3 ∨ a0_2 = 4 then some (0, 0, 0, (⟨#[]⟩ : ByteArray), a0_3, a0_4, a0_5, a0_6, true) else if a0_2 = 5 ∨ a0_2 = 6 then some (a0_3, a0_4, a0_5, a0_6, 0, 0, 0, (⟨#[]⟩ : ByteArray), true) else some (0, 0, 0, (⟨#[]⟩ : ByteArray), 0, 0, 0, (⟨#[]⟩ : ByteArray), false)) else if a0_0 = 2 then (if l0_7.length = 0 then some (0, 0, 0, (⟨#[]⟩ : ByteArray), 0, 0, 0, (⟨#[]⟩ : ByteArray), false) else (minCompare.f k l0_7).bind fun mn => (maxCompare.f k l0_7).bind fun mx_ => some (mn.f0, mn.f1, mn.f2, mn.f3, mx_.f0, mx_.f1, mx_.f2, mx_.f3, true)) else if a0_0 = 3 then (if 1 < l0_7.length then some ((rd_T28 l0_7 0).f0, (rd_T28 l0_7 0).f1, (rd_T28 l0_7 0).f2, (rd_T28 l0_7 0).f3, (rd_T28 l0_7 1).f0, (rd_T28 l0_7 1).f1, (rd_T28 l0_7 1).f2, (rd_T28 l0_7 1).f3, true) else none) else if a0_0 = 5 then some (a0_3, a0_4, a0_5, a0_6, 0, 0, 0, (⟨#[]⟩ : ByteArray), true) else some (0, 0, 0, (⟨#[]⟩ : ByteArray), 0, 0, 0, (⟨#[]⟩ : ByteArray), false)
theorem atom_Bounds.mono (a0_0 : Int) (a0_1 : ByteArray) (a0_2 a0_3 a0_4 : Int) (a0_5 : Nat) (a0_6 : ByteArray) (l0_7 : List S28) (l0_8 : List S32) (k : Nat) : LeO (atom_Bounds.f k a0_0 a0_1 a0_2 a0_3 a0_4 a0_5 a0_6 l0_7 l0_8) (atom_Bounds.f (k + 1) a0_0 a0_1 a0_2 a0_3 a0_4 a0_5 a0_6 l0_7 l0_8) := by
 unfold atom_Bounds.f
 exact LeO.bind (atom_right.mono _ _ _ _ _ _ _ _ _ _) (fun b => LeO.ite (LeO.refl _) (LeO.ite (LeO.refl _) (LeO.ite (LeO.ite (LeO.refl _) (LeO.bind (minCompare.mono _ _) (fun mn => LeO.bind (maxCompare.mono _ _) (fun mx_ => LeO.refl _)))) (LeO.refl _))))
theorem atom_Bounds.calls (k : Nat) (a0_0 : Int) (a0_1 : ByteArray) (a0_2 a0_3 a0_4 : Int) (a0_5 : Nat) (a0_6 : ByteArray) (A0_7 : Option Addr) (c0_7 : Nat) (l0_7 : List S28) (A0_8 : Option Addr) (c0_8 : Nat) (l0_8 : List S32) (r1 : Int) (r2 : Int) (r3 : Nat) (r4 : ByteArray) (r5 : Int) (r6 : Int) (r7 : Nat) (r8 : ByteArray) (r9 : Bool) (w : World) (hr0_7 : Kd.C k28 w A0_7 l0_7.length l0_7) (hc0_7 : l0_7.length ≤ c0_7) (hr0_8 : Kd.C k32 w A0_8 l0_8.length l0_8) (hc0_8 : l0_8.length ≤ c0_8) (h : atom_Bounds.f k a0_0 a0_1 a0_2 a0_3 a0_4 a0_5 a0_6 l0_7 l0_8 = some (r1, r2, r3, r4, r5, r6, r7, r8, r9)) :
  Calls Try.prog 25 #[.agg #[.int .i64 a0_0, .string a0_1, .int .i64 a0_2, .int .i64 a0_3, .int .i64 a0_4, .float .f64 a0_5, .string a0_6, .slice A0_7 l0_7.length c0_7, .slice A0_8 l0_8.length c0_8]] w fun e w' => e = .returned (.tuple #[.agg #[.int .i64 r1, .int .i64 r2, .float .f64 r3, .string r4], .agg #[.int .i64 r5, .int .i64 r6, .float .f64 r7, .string r8], .bool r9]) ∧ Below w.heap.size w w' := by
 unfold atom_Bounds.f at h
 obtain ⟨b, hb, h2⟩ := Option.bind_eq_some_iff.1 h
 clear h
 have h := h2
 clear h2
 cases b
 ·rw [if_pos rfl] at h
  simp only [Option.some.injEq, Prod.mk.injEq] at h; obtain ⟨rfl, rfl, rfl, rfl, rfl, rfl, rfl, rfl, rfl⟩ := h; exact bounds_no k a0_0 a0_1 a0_2 a0_3 a0_4 a0_5 a0_6 A0_7 c0_7 l0_7 A0_8 c0_8 l0_8 w ⟨hr0_7, hc0_7⟩ ⟨hr0_8, hc0_8⟩ ⟨hb⟩
 rw [if_neg (by decide)] at h
 by_cases k1 : a0_0 = 1
 ·rw [if_pos k1] at h
  subst k1
  by_cases o1 : a0_2 = 1
  ·rw [if_pos o1] at h
   subst o1; simp only [Option.some.injEq, Prod.mk.injEq] at h; obtain ⟨rfl, rfl, rfl, rfl, rfl, rfl, rfl, rfl, rfl⟩ := h; exact bounds_eq k a0_1 a0_3 a0_4 a0_5 a0_6 A0_7 c0_7 l0_7 A0_8 c0_8 l0_8 w ⟨hr0_7, hc0_7⟩ ⟨hr0_8, hc0_8⟩ ⟨hb⟩
  rw [if_neg o1] at h
  by_cases o3 : a0_2 = 3 ∨ a0_2 = 4
  ·rw [if_pos o3] at h
   simp only [Option.some.injEq, Prod.mk.injEq] at h; obtain ⟨rfl, rfl, rfl, rfl, rfl, rfl, rfl, rfl, rfl⟩ := h
   rcases o3 with rfl | rfl
   ·exact bounds_lt k a0_1 a0_3 a0_4 a0_5 a0_6 A0_7 c0_7 l0_7 A0_8 c0_8 l0_8 w ⟨hr0_7, hc0_7⟩ ⟨hr0_8, hc0_8⟩ ⟨hb⟩
   ·exact bounds_le k a0_1 a0_3 a0_4 a0_5 a0_6 A0_7 c0_7 l0_7 A0_8 c0_8 l0_8 w ⟨hr0_7, hc0_7⟩ ⟨hr0_8, hc0_8⟩ ⟨hb⟩
  rw [if_neg o3] at h
  by_cases o5 : a0_2 = 5 ∨ a0_2 = 6
  ·rw [if_pos o5] at h
   simp only [Option.some.injEq, Prod.mk.injEq] at h; obtain ⟨rfl, rfl, rfl, rfl, rfl, rfl, rfl, rfl, rfl⟩ := h
   rcases o5 with rfl | rfl
   ·exact bounds_gt k a0_1 a0_3 a0_4 a0_5 a0_6 A0_7 c0_7 l0_7 A0_8 c0_8 l0_8 w ⟨hr0_7, hc0_7⟩ ⟨hr0_8, hc0_8⟩ ⟨hb⟩
   ·exact bounds_ge k a0_1 a0_3 a0_4 a0_5 a0_6 A0_7 c0_7 l0_7 A0_8 c0_8 l0_8 w ⟨hr0_7, hc0_7⟩ ⟨hr0_8, hc0_8⟩ ⟨hb⟩
  rw [if_neg o5] at h
  simp only [Option.some.injEq, Prod.mk.injEq] at h; obtain ⟨rfl, rfl, rfl, rfl, rfl, rfl, rfl, rfl, rfl⟩ := h; exact bounds_ne k a0_1 a0_2 a0_3 a0_4 a0_5 a0_6 A0_7 c0_7 l0_7 A0_8 c0_8 l0_8 w ⟨hr0_7, hc0_7⟩ ⟨hr0_8, hc0_8⟩ ⟨hb⟩ (by omega)
 rw [if_neg k1] at h
 by_cases k2 : a0_0 = 2
 ·rw [if_pos k2] at h
  subst k2
  by_cases hl : l0_7.length = 0
  ·rw [if_pos hl] at h
   simp only [Option.some.injEq, Prod.mk.injEq] at h; obtain ⟨rfl, rfl, rfl, rfl, rfl, rfl, rfl, rfl, rfl⟩ := h; exact bounds_none k a0_1 a0_2 a0_3 a0_4 a0_5 a0_6 A0_7 c0_7 l0_7 A0_8 c0_8 l0_8 w ⟨hr0_7, hc0_7⟩ ⟨hr0_8, hc0_8⟩ ⟨hb⟩ hl
  rw [if_neg hl] at h
  obtain ⟨mn, hmn, h2⟩ := Option.bind_eq_some_iff.1 h
  clear h
  obtain ⟨mx_, hmx, h⟩ := Option.bind_eq_some_iff.1 h2
  clear h2
  simp only [Option.some.injEq, Prod.mk.injEq] at h; obtain ⟨rfl, rfl, rfl, rfl, rfl, rfl, rfl, rfl, rfl⟩ := h; exact bounds_in k a0_1 a0_2 a0_3 a0_4 a0_5 a0_6 A0_7 c0_7 l0_7 A0_8 c0_8 l0_8 w ⟨hr0_7, hc0_7⟩ ⟨hr0_8, hc0_8⟩ ⟨hb⟩ (by omega) mn mx_ ⟨hmn⟩ ⟨hmx⟩
 rw [if_neg k2] at h
 by_cases k3 : a0_0 = 3
 ·rw [if_pos k3] at h
  subst k3
  by_cases hl : 1 < l0_7.length
  ·rw [if_pos hl] at h
   simp only [Option.some.injEq, Prod.mk.injEq] at h; obtain ⟨rfl, rfl, rfl, rfl, rfl, rfl, rfl, rfl, rfl⟩ := h; exact bounds_between k a0_1 a0_2 a0_3 a0_4 a0_5 a0_6 A0_7 c0_7 l0_7 A0_8 c0_8 l0_8 w ⟨hr0_7, hc0_7⟩ ⟨hr0_8, hc0_8⟩ ⟨hb⟩ hl
  ·rw [if_neg hl] at h
   cases h
 rw [if_neg k3] at h
 by_cases k5 : a0_0 = 5
 ·rw [if_pos k5] at h
  subst k5
  simp only [Option.some.injEq, Prod.mk.injEq] at h; obtain ⟨rfl, rfl, rfl, rfl, rfl, rfl, rfl, rfl, rfl⟩ := h; exact bounds_begins k a0_1 a0_2 a0_3 a0_4 a0_5 a0_6 A0_7 c0_7 l0_7 A0_8 c0_8 l0_8 w ⟨hr0_7, hc0_7⟩ ⟨hr0_8, hc0_8⟩ ⟨hb⟩
 rw [if_neg k5] at h
 simp only [Option.some.injEq, Prod.mk.injEq] at h; obtain ⟨rfl, rfl, rfl, rfl, rfl, rfl, rfl, rfl, rfl⟩ := h; exact bounds_other k a0_0 a0_1 a0_2 a0_3 a0_4 a0_5 a0_6 A0_7 c0_7 l0_7 A0_8 c0_8 l0_8 w ⟨hr0_7, hc0_7⟩ ⟨hr0_8, hc0_8⟩ ⟨hb⟩ (by omega)
end Go.Proofs.Ytkedejphebfneaa.Pa
