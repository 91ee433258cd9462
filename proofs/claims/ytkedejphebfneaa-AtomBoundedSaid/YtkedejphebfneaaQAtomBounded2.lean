/- The texts of AtomBounded, merged: part 2. -/
import Derived.Laws.Sem
import Derived.Laws.StructEq
import Derived.Laws.Externs
import Derived.Test.YtkedejphebfneaaProg
import Derived.Test.YtkedejphebfneaaQAtomBounded0
namespace Go.Proofs.YtkedejphebfneaaW.PrintWords
open Go.RowKit
set_option linter.unusedVariables false
namespace Kd
def f64 : Kd Nat := scalar (Value.float .f64) (fun _ => rfl)
theorem heap_f64 : Kd.Heap f64 := heap_scalar
end Kd
theorem run_store_float (P : Program) (w : World) (a : Addr) (m : Mode) (k : FloatKind) (b : Nat) : (store a (.float k b) m).run P w = stored P w a (.float k b) m := run_store P w a _ m rfl
def feq (a b : Nat) : Bool := FloatKind.f64.format.order a b == some .eq
def flt (a b : Nat) : Bool := FloatKind.f64.format.order a b == some .lt
def fgt (a b : Nat) : Bool := FloatKind.f64.format.order a b == some .gt
def fle (a b : Nat) : Bool := FloatKind.f64.format.order a b == some .lt || FloatKind.f64.format.order a b == some .eq
def fge (a b : Nat) : Bool := FloatKind.f64.format.order a b == some .gt || FloatKind.f64.format.order a b == some .eq
theorem cmp_feq (t : TypeId) (a b : Nat) : binOp .eql t (.float .f64 a) (.float .f64 b) = pure (.bool (feq a b)) := by simp [binOp, Op.floatCmp, feq]
theorem cmp_fne (t : TypeId) (a b : Nat) : binOp .neq t (.float .f64 a) (.float .f64 b) = pure (.bool (!(feq a b))) := by simp [binOp, Op.floatCmp, feq, bne]
theorem cmp_flt (t : TypeId) (a b : Nat) : binOp .lss t (.float .f64 a) (.float .f64 b) = pure (.bool (flt a b)) := by simp [binOp, Op.floatCmp, flt]
theorem cmp_fle (t : TypeId) (a b : Nat) : binOp .leq t (.float .f64 a) (.float .f64 b) = pure (.bool (fle a b)) := by simp [binOp, Op.floatCmp, fle]
theorem cmp_fgt (t : TypeId) (a b : Nat) : binOp .gtr t (.float .f64 a) (.float .f64 b) = pure (.bool (fgt a b)) := by simp [binOp, Op.floatCmp, fgt]
theorem cmp_fge (t : TypeId) (a b : Nat) : binOp .geq t (.float .f64 a) (.float .f64 b) = pure (.bool (fge a b)) := by simp [binOp, Op.floatCmp, fge]
theorem less_total : ∀ x y : List UInt8, (!(Op.bytesLess x y || x == y)) = Op.bytesLess y x
  | [], [] => rfl
  | [], _ :: _ => rfl
  | _ :: _, [] => rfl
  | a :: x, b :: y => by
    have ih := less_total x y
    rw [Op.bytesLess, Op.bytesLess, ← ih]
    have e : ((a :: x) == (b :: y)) = (a == b && x == y) := rfl
    rw [e]
    rcases Nat.lt_trichotomy a.toNat b.toNat with h | h | h
    · have h1 : decide (a < b) = true := decide_eq_true (UInt8.lt_iff_toNat_lt.2 h)
      have h2 : decide (b < a) = false := decide_eq_false (fun k => by have := UInt8.lt_iff_toNat_lt.1 k; omega)
      have h3 : (a == b) = false := beq_eq_false_iff_ne.2 (fun k => by rw [k] at h; omega)
      have h4 : (b == a) = false := beq_eq_false_iff_ne.2 (fun k => by rw [k] at h; omega)
      rw [h1, h2, h3, h4]; simp
    · have h5 : a = b := UInt8.toNat_inj.1 h
      subst h5
      simp
    · have h1 : decide (a < b) = false := decide_eq_false (fun k => by have := UInt8.lt_iff_toNat_lt.1 k; omega)
      have h2 : decide (b < a) = true := decide_eq_true (UInt8.lt_iff_toNat_lt.2 h)
      have h3 : (a == b) = false := beq_eq_false_iff_ne.2 (fun k => by rw [k] at h; omega)
      rw [h1, h2, h3]; simp
theorem cmp_sgt (t : TypeId) (a b : ByteArray) : binOp .gtr t (.string a) (.string b) = pure (.bool (Op.bytesLess b.toList a.toList)) := by
  rw [← less_total]
  simp [binOp, Op.stringOp]
def cmpb (a b : ByteArray) : Int := Extern.BytealgCompare.cmp a b
theorem run_cmpb {P : Program} (a b : ByteArray) (w : World) : (Extern.BytealgCompare.compare #[.string a, .string b]).run P w = .ok (.int .i64 (cmpb a b)) w := by
  change Sem.run P (do pure (goInt (Extern.BytealgCompare.cmp (← Extern.Bytes.bytesOf (.string a)) (← Extern.Bytes.bytesOf (.string b))))) w = _
  simp only [Extern.Bytes.bytesOf, Sem.run_bind, Sem.run_pure, Result.andThen]
  rfl
def fneg (a : Nat) : Nat := Op.negFloat .f64 a
theorem un_fneg (a : Nat) : Op.unary .neg (.float .f64 a) = pure (.float .f64 (fneg a)) := rfl
theorem equalIn_feq {P : Program} {w : World} (d : Nat) (t : TypeId) (k' : FloatKind) (a b : Nat) (h : P.underlying t = some (.float k')) : (Op.equalIn (d + 1) t (.float .f64 a) (.float .f64 b)).run P w = .ok (feq a b) w := by simp [Op.equalIn, run_underlying h, Op.floatEq, feq]
def fbits (op : BinOp) (x y : Nat) : Option Nat :=
  match op with
  | .add => FloatKind.f64.format.add x y
  | .sub => FloatKind.f64.format.sub x y
  | .mul => FloatKind.f64.format.mul x y
  | .quo => FloatKind.f64.format.div x y
  | _ => none
def fok (op : BinOp) (a b : Nat) : Bool := (fbits op a b).isSome
def fval (op : BinOp) (a b : Nat) : Nat := (fbits op a b).getD 0
theorem run_fop (P : Program) (w : World) (op : BinOp) (t : TypeId) (a b : Nat) (h : fok op a b = true) : (binOp op t (.float .f64 a) (.float .f64 b)).run P w = .ok (.float .f64 (fval op a b)) w := by
  unfold fok at h
  obtain ⟨r, hr⟩ := Option.isSome_iff_exists.1 h
  have hv : fval op a b = r := by unfold fval; rw [hr]; rfl
  rw [hv]
  unfold fbits at hr
  cases op <;> simp only at hr <;> first | (cases hr; done) | skip
  all_goals simp [binOp, Op.floatArith, hr]
def fintv (b : Nat) : Option Int :=
  match (FloatKind.f64.decode b).toInt .zero with
  | some n => if IntKind.i64.min ≤ n ∧ n ≤ IntKind.i64.max then some n else none
  | none => none
def fintok (a : Nat) : Bool := (fintv a).isSome
def fint (a : Nat) : Int := (fintv a).getD 0
theorem run_fint (P : Program) (w : World) (src dst : TypeId) (a : Nat) (hs : (P.underlying src).isSome = true) (hd : P.underlying dst = some (.int .i64)) (h : fintok a = true) : (convert src dst (.float .f64 a)).run P w = .ok (.int .i64 (fint a)) w := by
  unfold fintok at h
  obtain ⟨r, hr⟩ := Option.isSome_iff_exists.1 h
  have hv : fint a = r := by unfold fint; rw [hr]; rfl
  rw [hv]
  obtain ⟨u, hs'⟩ := Option.isSome_iff_exists.1 hs
  unfold fintv at hr
  split at hr
  · rename_i m he
    split at hr
    · rename_i hb
      cases hr
      have b2 : ¬ (9223372036854775807 < r) := by have := hb.2; have e : IntKind.i64.max = 9223372036854775807 := by decide +kernel
                                                  omega
      have b1 : -9223372036854775808 ≤ r := by have := hb.1; have e : IntKind.i64.min = -9223372036854775808 := by decide +kernel
                                               omega
      cases u <;> simp [convert, run_underlying hs', run_underlying hd, Conv.floatToInt, he, hb.1, b2]
    · cases hr
  · cases hr
def freal (n : Int) : Nat := FloatKind.f64.nearest n
theorem run_freal (P : Program) (w : World) (src dst : TypeId) (q : IntKind) (n : Int) (hs : (P.underlying src).isSome = true) (hd : P.underlying dst = some (.float .f64)) :
    (convert src dst (.int q n)).run P w = .ok (.float .f64 (freal n)) w := by
  obtain ⟨s, hs'⟩ := Option.isSome_iff_exists.1 hs
  cases s <;> simp [convert, run_underlying hs', run_underlying hd, Conv.intToFloat, freal]
theorem bel0 {b : Nat} {w W : World} (h : Below b w W := by repeat (first | (with_reducible first | (apply Aside0.out; assumption) | apply below_alloc | apply pw_below_drewN | apply below_drew1 | refine below_set ?_ (Aside0.out (by assumption))) | (apply Aside0.out; assumption))) : Below b w W := h
theorem blk0 {W0 W : World} {g : Nat} {o : Obj} (_ : Aside0 (W0.heap[g]? = some o)) (h : W.heap[g]? = some o := by with_reducible repeat (first | (apply Aside0.out; assumption) | refine blk_drewN ?_ _ | refine blk_drew ?_ | refine blk_alloc ?_ _)) : W.heap[g]? = some o := h
theorem row0 {α : Type} {d : Kd α} {e B : Nat} {ok : Nat → Prop} {v : Value} {xs : List α} {W0 W : World} (_ : Aside0 (d.R e W0 B ok v xs)) (h : d.R e W B ok v xs := by (with_reducible repeat (first | (apply Aside0.out; assumption) | apply Kd.R_alloc | apply Kd.R_drewN | apply Kd.R_drew)) <;> (apply Aside0.out; assumption)) : d.R e W B ok v xs := h
theorem blkS {w1 W W' : World} {g : Nat} {o : Obj} (_ : Aside0 (w1.heap[g]? = some o)) (hb : Below W.heap.size W W') (h : W.heap[g]? = some o := by with_reducible repeat (first | (apply Aside0.out; assumption) | refine blk_drewN ?_ _ | refine blk_drew ?_ | refine blk_alloc ?_ _)) : Aside0 (W'.heap[g]? = some o) := ⟨blk_below h hb⟩
theorem cells_4 {W : World} {g : Nat} {t : TypeId} {v0 v1 v2 v3 : Value} (h : W.heap[g]? = some (.cells #[v0, v1, v2, v3] t (0, 0))) : W.cell? ⟨g, 0, none⟩ = some v0 ∧ W.cell? ⟨g, 1, none⟩ = some v1 ∧ W.cell? ⟨g, 2, none⟩ = some v2 ∧ W.cell? ⟨g, 3, none⟩ = some v3 :=
  ⟨(blk_cell h 0).trans rfl, (blk_cell h 1).trans rfl, (blk_cell h 2).trans rfl, (blk_cell h 3).trans rfl⟩
theorem froz_4 {W : World} {g : Nat} {t : TypeId} {cs : Array Value} (h : W.heap[g]? = some (.cells cs t (0, 0))) : W.frozen? ⟨g, 0, none⟩ = false ∧ W.frozen? ⟨g, 1, none⟩ = false ∧ W.frozen? ⟨g, 2, none⟩ = false ∧ W.frozen? ⟨g, 3, none⟩ = false :=
  ⟨blk_frozen h 0, blk_frozen h 1, blk_frozen h 2, blk_frozen h 3⟩
theorem cells_9 {W : World} {g : Nat} {t : TypeId} {v0 v1 v2 v3 v4 v5 v6 v7 v8 : Value} (h : W.heap[g]? = some (.cells #[v0, v1, v2, v3, v4, v5, v6, v7, v8] t (0, 0))) : W.cell? ⟨g, 0, none⟩ = some v0 ∧ W.cell? ⟨g, 1, none⟩ = some v1 ∧ W.cell? ⟨g, 2, none⟩ = some v2 ∧ W.cell? ⟨g, 3, none⟩ = some v3 ∧ W.cell? ⟨g, 4, none⟩ = some v4 ∧ W.cell? ⟨g, 5, none⟩ = some v5 ∧ W.cell? ⟨g, 6, none⟩ = some v6 ∧ W.cell? ⟨g, 7, none⟩ = some v7 ∧ W.cell? ⟨g, 8, none⟩ = some v8 :=
  ⟨(blk_cell h 0).trans rfl, (blk_cell h 1).trans rfl, (blk_cell h 2).trans rfl, (blk_cell h 3).trans rfl, (blk_cell h 4).trans rfl, (blk_cell h 5).trans rfl, (blk_cell h 6).trans rfl, (blk_cell h 7).trans rfl, (blk_cell h 8).trans rfl⟩
theorem froz_9 {W : World} {g : Nat} {t : TypeId} {cs : Array Value} (h : W.heap[g]? = some (.cells cs t (0, 0))) : W.frozen? ⟨g, 0, none⟩ = false ∧ W.frozen? ⟨g, 1, none⟩ = false ∧ W.frozen? ⟨g, 2, none⟩ = false ∧ W.frozen? ⟨g, 3, none⟩ = false ∧ W.frozen? ⟨g, 4, none⟩ = false ∧ W.frozen? ⟨g, 5, none⟩ = false ∧ W.frozen? ⟨g, 6, none⟩ = false ∧ W.frozen? ⟨g, 7, none⟩ = false ∧ W.frozen? ⟨g, 8, none⟩ = false :=
  ⟨blk_frozen h 0, blk_frozen h 1, blk_frozen h 2, blk_frozen h 3, blk_frozen h 4, blk_frozen h 5, blk_frozen h 6, blk_frozen h 7, blk_frozen h 8⟩
theorem ext_bits (w : World) (b : Nat) : (callFunc 71 #[.float .f64 b]).run Try.prog w = .ok (.value (.int .u64 (b : Int))) w := (run_callFunc_extern (e := Extern.MathFloatBits.float64bits) Try.func71 (by kernel_rfl) (by kernel_rfl) (by kernel_rfl) (by kernel_rfl) _ w).trans rfl
theorem ext_frombits (w : World) (n : Int) : (callFunc 85 #[.int .u64 n]).run Try.prog w = .ok (.value (.float .f64 n.toNat)) w := (run_callFunc_extern (e := Extern.MathFloatBits.float64frombits) Try.func85 (by kernel_rfl) (by kernel_rfl) (by kernel_rfl) (by kernel_rfl) _ w).trans rfl
theorem ext_cmpb (w : World) (a b : ByteArray) : (callFunc 87 #[.string a, .string b]).run Try.prog w = .ok (.value (.int .i64 (cmpb a b))) w := (run_callFunc_extern (e := Extern.BytealgCompare.compare) Try.func87 (by kernel_rfl) (by kernel_rfl) (by kernel_rfl) (by kernel_rfl) _ w).trans (by rw [run_cmpb]; rfl)
end Go.Proofs.YtkedejphebfneaaW.PrintWords
