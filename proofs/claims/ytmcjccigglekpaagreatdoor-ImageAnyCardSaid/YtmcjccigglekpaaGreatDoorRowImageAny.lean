/- ImageAny's row: what the program's text says of it. -/
import Derived.Test.YtmcjccigglekpaaGreatDoorRows
import Derived.JoinedOf
import Derived.KernelRfl
namespace Go.Proofs.YtmcjccigglekpaaGreatDoor.imageAny
open Go Go.Proofs.YtmcjccigglekpaaGreatDoor
theorem closed : joinedFacts Tryz.prog 5 Tryz.f5 Rows.imageAnySpec Rows.imageAnyRow = true := by kernel_rfl
end Go.Proofs.YtmcjccigglekpaaGreatDoor.imageAny
