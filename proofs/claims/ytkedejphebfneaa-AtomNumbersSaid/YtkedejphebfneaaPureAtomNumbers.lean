/- AtomNumbers: closed. -/
import Derived.Test.YtkedejphebfneaaPa14
import Derived.Test.YtkedejphebfneaaOp
namespace Go.Proofs.Ytkedejphebfneaa.Pure
open Go.RowKit Go.Proofs.Ytkedejphebfneaa.Pa Go.Proofs.Ytkedejphebfneaa.L Go.Proofs.YtkedejphebfneaaW.PrintWords Go.Proofs.YtkedejphebfneaaW.PrintLast Go.Proofs.YtkedejphebfneaaW.PrintMore
set_option maxRecDepth 100000 in
theorem AtomNumbers : ∃ k, colonnadelaw18_AtomNumbers.f k = some true := ⟨1100, by decide +kernel⟩
end Go.Proofs.Ytkedejphebfneaa.Pure
