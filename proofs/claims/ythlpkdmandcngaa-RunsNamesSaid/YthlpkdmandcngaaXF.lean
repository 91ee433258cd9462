import Derived.Laws.Sem
import Derived.Test.YthlpkdmandcngaaWWords
import Derived.Test.YthlpkdmandcngaaWFoot
namespace Go.Proofs.YthlpkdmandcngaaW.PrintWords
open Go.RowKit
namespace Kd
/-- A float64, by its bits. -/
def f64 : Kd Nat := scalar (Value.float .f64) (fun _ => rfl)
theorem heap_f64 : Kd.Heap f64 := heap_scalar
end Kd
theorem run_store_float (P : Program) (w : World) (a : Addr) (m : Mode) (k : FloatKind) (b : Nat) : (store a (.float k b) m).run P w = stored P w a (.float k b) m := run_store P w a _ m rfl
end Go.Proofs.YthlpkdmandcngaaW.PrintWords
