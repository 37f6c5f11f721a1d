/- An append to a slice of the call's own, as one step of a region that draws its order; the row that came in stays readable. -/
import Derived.Test.YtnfjjckbgnieeaaGreatDoorVBase
import Derived.Laws.AppendOwn
import Derived.Deep.RegionLaw
namespace Go.Proofs.YtnfjjckbgnieeaaGreatDoor
open Go.RowKit

end Go.Proofs.YtnfjjckbgnieeaaGreatDoor
