/- Package term: Ground, names, Vars, Consts: what they answer at every atom. -/
import Derived.Test.YtnfjjckbgnieeaaGreatDoorVTerm
namespace Go.Proofs.YtnfjjckbgnieeaaGreatDoor
open Go.RowKit

end Go.Proofs.YtnfjjckbgnieeaaGreatDoor
