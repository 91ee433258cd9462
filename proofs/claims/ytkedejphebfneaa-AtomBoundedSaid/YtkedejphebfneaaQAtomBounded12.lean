/- The texts of AtomBounded, merged: part 12. -/
import Derived.Test.YtkedejphebfneaaQAtomBounded11
import Derived.Test.YtkedejphebfneaaQAtomBounded6
/- The closure of atom.says, and whether a list contains what it says yes of. -/
namespace Go.Proofs.Ytkedejphebfneaa.Pa
open Go.Proofs.Ytkedejphebfneaa.L Go.RowKit Go.Proofs.YtkedejphebfneaaW.PrintWords Go.Proofs.YtkedejphebfneaaW.PrintLast Go.Proofs.YtkedejphebfneaaW.PrintMore
set_option linter.unusedVariables false
set_option linter.unusedSimpArgs false
theorem says_closure (k : Nat) (g : Nat) (v0 v1 : Int) (v2 : Nat) (v3 : ByteArray) (c : S28) (r : Int) (w : World) (hb : w.heap[g]? = some (.cells #[.int .i64 v0, .int .i64 v1, .float .f64 v2, .string v3] 28 (0, 0))) (h : value_Compare.f k v0 v1 v2 v3 c.f0 c.f1 c.f2 c.f3 = some r) :
  Calls Try.prog 75 #[.agg #[.int .i64 c.f0, .int .i64 c.f1, .float .f64 c.f2, .string c.f3], .pointer (some ⟨g, 0, none⟩)] w fun e w' => e = .returned (.bool (r == 0)) ∧ Below w.heap.size w w' := by
 have hB := Aside0.mk (blk_alloc hb (.cells #[.int .i64 c.f0, .int .i64 c.f1, .float .f64 c.f2, .string c.f3] 28))
 have hc0 : (w.alloc (.cells #[.int .i64 c.f0, .int .i64 c.f1, .float .f64 c.f2, .string c.f3] 28)).cell? ⟨g, 0, none⟩ = some (.int .i64 v0) := (blk_cell hB.out 0).trans rfl
 have hc1 : (w.alloc (.cells #[.int .i64 c.f0, .int .i64 c.f1, .float .f64 c.f2, .string c.f3] 28)).cell? ⟨g, 1, none⟩ = some (.int .i64 v1) := (blk_cell hB.out 1).trans rfl
 have hc2 : (w.alloc (.cells #[.int .i64 c.f0, .int .i64 c.f1, .float .f64 c.f2, .string c.f3] 28)).cell? ⟨g, 2, none⟩ = some (.float .f64 v2) := (blk_cell hB.out 2).trans rfl
 have hc3 : (w.alloc (.cells #[.int .i64 c.f0, .int .i64 c.f1, .float .f64 c.f2, .string c.f3] 28)).cell? ⟨g, 3, none⟩ = some (.string v3) := (blk_cell hB.out 3).trans rfl
 have hC := Aside0.mk (fun W => value_Compare.calls k v0 v1 v2 v3 c.f0 c.f1 c.f2 c.f3 r W h)
 clear h hb
 go_enter Try.func75, Try.ntmps75
 go_wp2_with (go_at_call 29; refine (hC.out _).mono ?_; rintro e w2 ⟨rfl, hb2⟩)
 all_goals (go_ret; exact ⟨rfl, below_then (below_alloc (Below.refl _ _) _) (by simp) hb2⟩)
def containsSays.f (k : Nat) (l : List S28) (v0 v1 : Int) (v2 : Nat) (v3 : ByteArray) : Option Bool :=
 (idxT (fun c => (value_Compare.f k v0 v1 v2 v3 c.f0 c.f1 c.f2 c.f3).bind fun r => some (r == 0)) l 0).bind fun i => some (decide (0 ≤ i))
theorem containsSays.mono (l : List S28) (v0 v1 : Int) (v2 : Nat) (v3 : ByteArray) (k : Nat) : LeO (containsSays.f k l v0 v1 v2 v3) (containsSays.f (k + 1) l v0 v1 v2 v3) := by
 unfold containsSays.f
 exact LeO.bind (idxT_mono (fun c => LeO.bind (value_Compare.mono _ _ _ _ _ _ _ _ _) (fun _ => LeO.refl _)) l 0) (fun _ => LeO.refl _)
theorem containsSays.calls (k : Nat) (A0 : Option Addr) (c0 : Nat) (l : List S28) (v0 v1 : Int) (v2 : Nat) (v3 : ByteArray) (r : Bool) (w : World) (hr0 : Kd.C k28 w A0 l.length l) (hc0 : l.length ≤ c0) (h : containsSays.f k l v0 v1 v2 v3 = some r)
  {g : Nat} (hb : w.heap[g]? = some (.cells #[.int .i64 v0, .int .i64 v1, .float .f64 v2, .string v3] 28 (0, 0)) := by apply Aside0.out; assumption) :
  Calls Try.prog 46 #[.slice A0 l.length c0, .func (.func 75) #[] #[.pointer (some ⟨g, 0, none⟩)]] w fun e w' => e = .returned (.bool r) ∧ Below w.heap.size w w' := by
 unfold containsSays.f at h
 obtain ⟨i, h1, h2⟩ := Option.bind_eq_some_iff.1 h
 obtain rfl := Option.some.inj h2
 refine containsS_calls (.pointer (some ⟨g, 0, none⟩)) _ (fun W => W.heap[g]? = some (.cells #[.int .i64 v0, .int .i64 v1, .float .f64 v2, .string v3] 28 (0, 0))) (fun W W' hW hB => blk_below hW hB) ?_ A0 c0 l i w hr0 hc0 hb h1
 intro c b W hW hq
 obtain ⟨x, hx, hq⟩ := Option.bind_eq_some_iff.1 hq
 obtain rfl := Option.some.inj hq
 exact says_closure k g v0 v1 v2 v3 c x W hW hx
end Go.Proofs.Ytkedejphebfneaa.Pa
