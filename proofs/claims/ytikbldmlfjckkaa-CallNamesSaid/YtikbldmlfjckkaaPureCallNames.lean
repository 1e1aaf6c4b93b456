/- CallNames is true of every two numbers: no condition. -/
import Derived.Test.YtikbldmlfjckkaaHCallNames
namespace Go.Proofs.Ytikbldmlfjckkaa.Pure
theorem CallNames : Go.Proofs.Ytikbldmlfjckkaa.P.garrisonlaw15_CallNames.Pure := trivial
end Go.Proofs.Ytikbldmlfjckkaa.Pure
