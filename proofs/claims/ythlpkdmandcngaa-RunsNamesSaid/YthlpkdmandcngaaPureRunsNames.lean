/- RunsNames: the closed law of the chapter's numbers returns true, on every start. No conditions. -/
import Derived.Test.YthlpkdmandcngaaPa3
namespace Go.Proofs.Ythlpkdmandcngaa.Pure
open Go.Proofs.Ythlpkdmandcngaa.Pa
theorem RunsNames : colonnadelaw10_RunsNames.f = some true := rfl
end Go.Proofs.Ythlpkdmandcngaa.Pure
