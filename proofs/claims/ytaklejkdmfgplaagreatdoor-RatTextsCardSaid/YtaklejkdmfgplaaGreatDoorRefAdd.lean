/- The contracts of tombolaref06.plus, Add. -/
import Derived.Test.YtaklejkdmfgplaaGreatDoorRefOver
namespace Go.Proofs.YtaklejkdmfgplaaGreatDoor
open Go Go.RowKit

end Go.Proofs.YtaklejkdmfgplaaGreatDoor
