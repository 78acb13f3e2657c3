/- Contracts of tombolaref05: Small, Div. -/
import Derived.Test.YtefeglkbikcjeaaGreatDoorRef05
namespace Go.Proofs.YtefeglkbikcjeaaGreatDoor
open Go Go.RowKit

end Go.Proofs.YtefeglkbikcjeaaGreatDoor
