import Derived.Laws.Sem
import Derived.Laws.StructEq
import Derived.Laws.Externs
import Derived.Test.YtgmeefgihidomaaProg
import Derived.Test.YtgmeefgihidomaaWWords
import Derived.Test.YtgmeefgihidomaaWFoot
namespace Go.Proofs.YtgmeefgihidomaaW.PrintWords
open Go.RowKit
namespace Kd
/-- A float64, by its bits. -/
def f64 : Kd Nat := scalar (Value.float .f64) (fun _ => rfl)
theorem heap_f64 : Kd.Heap f64 := heap_scalar
end Kd
theorem run_store_float (P : Program) (w : World) (a : Addr) (m : Mode) (k : FloatKind) (b : Nat) : (store a (.float k b) m).run P w = stored P w a (.float k b) m := run_store P w a _ m rfl
/-- Two reals held against each other, by their bits. -/
def feq (a b : Nat) : Bool := FloatKind.f64.format.order a b == some .eq
def flt (a b : Nat) : Bool := FloatKind.f64.format.order a b == some .lt
def fgt (a b : Nat) : Bool := FloatKind.f64.format.order a b == some .gt
def fle (a b : Nat) : Bool := FloatKind.f64.format.order a b == some .lt || FloatKind.f64.format.order a b == some .eq
def fge (a b : Nat) : Bool := FloatKind.f64.format.order a b == some .gt || FloatKind.f64.format.order a b == some .eq
theorem cmp_feq (t : TypeId) (a b : Nat) : binOp .eql t (.float .f64 a) (.float .f64 b) = pure (.bool (feq a b)) := by simp [binOp, Op.floatCmp, feq]
theorem cmp_fne (t : TypeId) (a b : Nat) : binOp .neq t (.float .f64 a) (.float .f64 b) = pure (.bool (!(feq a b))) := by simp [binOp, Op.floatCmp, feq, bne]
theorem cmp_flt (t : TypeId) (a b : Nat) : binOp .lss t (.float .f64 a) (.float .f64 b) = pure (.bool (flt a b)) := by simp [binOp, Op.floatCmp, flt]
theorem cmp_fle (t : TypeId) (a b : Nat) : binOp .leq t (.float .f64 a) (.float .f64 b) = pure (.bool (fle a b)) := by simp [binOp, Op.floatCmp, fle]
theorem cmp_fgt (t : TypeId) (a b : Nat) : binOp .gtr t (.float .f64 a) (.float .f64 b) = pure (.bool (fgt a b)) := by simp [binOp, Op.floatCmp, fgt]
theorem cmp_fge (t : TypeId) (a b : Nat) : binOp .geq t (.float .f64 a) (.float .f64 b) = pure (.bool (fge a b)) := by simp [binOp, Op.floatCmp, fge]
def fneg (a : Nat) : Nat := Op.negFloat .f64 a
theorem un_fneg (a : Nat) : Op.unary .neg (.float .f64 a) = pure (.float .f64 (fneg a)) := rfl
theorem equalIn_feq {P : Program} {w : World} (d : Nat) (t : TypeId) (k' : FloatKind) (a b : Nat) (h : P.underlying t = some (.float k')) : (Op.equalIn (d + 1) t (.float .f64 a) (.float .f64 b)).run P w = .ok (feq a b) w := by simp [Op.equalIn, run_underlying h, Op.floatEq, feq]
theorem ext_bits (w : World) (b : Nat) : (callFunc 48 #[.float .f64 b]).run Try.prog w = .ok (.value (.int .u64 (b : Int))) w := (run_callFunc_extern (e := Extern.MathFloatBits.float64bits) Try.func48 (by kernel_rfl) (by kernel_rfl) (by kernel_rfl) (by kernel_rfl) _ w).trans rfl
theorem ext_frombits (w : World) (n : Int) : (callFunc 50 #[.int .u64 n]).run Try.prog w = .ok (.value (.float .f64 n.toNat)) w := (run_callFunc_extern (e := Extern.MathFloatBits.float64frombits) Try.func50 (by kernel_rfl) (by kernel_rfl) (by kernel_rfl) (by kernel_rfl) _ w).trans rfl
end Go.Proofs.YtgmeefgihidomaaW.PrintWords
