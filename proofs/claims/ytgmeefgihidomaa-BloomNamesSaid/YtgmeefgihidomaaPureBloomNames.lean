/- BloomNames: the closed law of the chapter's numbers returns true, on every start. No conditions. -/
import Derived.Test.YtgmeefgihidomaaPa2
namespace Go.Proofs.Ytgmeefgihidomaa.Pure
open Go.Proofs.Ytgmeefgihidomaa.Pa
theorem BloomNames : colonnadelaw13_BloomNames.f = some true := rfl
end Go.Proofs.Ytgmeefgihidomaa.Pure
