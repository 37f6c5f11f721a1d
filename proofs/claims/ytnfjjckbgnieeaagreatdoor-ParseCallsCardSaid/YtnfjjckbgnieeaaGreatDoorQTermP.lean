/- Plain facts on the names and texts of atoms; no program's function in sight. -/
import Derived.Test.YtnfjjckbgnieeaaGreatDoorQTermT
namespace Go.Proofs.YtnfjjckbgnieeaaGreatDoor
open Go.RowKit

end Go.Proofs.YtnfjjckbgnieeaaGreatDoor
